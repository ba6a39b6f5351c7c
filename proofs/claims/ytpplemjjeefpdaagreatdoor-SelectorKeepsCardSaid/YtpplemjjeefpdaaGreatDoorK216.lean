/- Texts that the proof leans on. -/
import Derived.Below
import Derived.Calls
import Derived.Deep.Draws
import Derived.WalkSpells
import Derived.Deep.QuietTactic
import Derived.BigQuiet
import Derived.BigRegion
import Derived.RegionTactic
import Derived.WalkLawsBesides
import Derived.Test.YtpplemjjeefpdaaGreatDoorK215
set_option linter.unusedVariables false
set_option linter.unusedSimpArgs false
set_option maxRecDepth 100000
set_option maxHeartbeats 4000000
namespace Go.Proofs.YtpplemjjeefpdaaGreatDoor
open Go Go.RowKit
def Ret (v:Value) (w:World) (e:Ending) (w':World):Prop:=e=.returned v∧w=w'
def RetG (v:Value) (w:World) (e:Ending) (w':World):Prop:=e=.returned v∧Below w.heap.size w w'
theorem hid_mk {p:Prop} (h:p):Hid p:=h
theorem below_drewN {B:Nat} {a w:World} (h:Below B a w) (n:Nat):Below B a (w.drewN n):=⟨h.os,h.tape,h.output,h.size,h.block⟩
@[go_sem] theorem setCell_drewN (w:World) (n:Nat) (a:Addr) (v:Value):(w.drewN n).setCell a v=(w.setCell a v).drewN n:=rfl
@[go_sem] theorem alloc_drewN (w:World) (n:Nat) (o:Obj):(w.drewN n).alloc o=(w.alloc o).drewN n:=rfl
theorem bcell {W w1:World} (hb:Below W.heap.size W w1):(∀b o,b<W.heap.size→w1.cell? ⟨b,o,none⟩=W.cell? ⟨b,o,none⟩)∧(∀b o,b<W.heap.size→w1.frozen? ⟨b,o,none⟩=W.frozen? ⟨b,o,none⟩):=
 ⟨fun b o h=>hb.cell (p:=⟨b,o,none⟩) h,fun b o h=>hb.frozen (p:=⟨b,o,none⟩) h⟩
theorem bthen {B:Nat} {a A c:World} (h:Below B a A) (hs:B≤A.heap.size) (k:Below A.heap.size A c):Below B a c:=h.trans (k.mono hs)
def Blk (w:World) (g:Nat) (cs:Array Value) (t:TypeId):Prop:=w.heap[g]?=some (.cells cs t (0,0))
section
variable {w w':World} {g:Nat} {t:TypeId} {cs:Array Value}
theorem Blk.lt (h:Blk w g cs t):g<w.heap.size:=by
 rcases Nat.lt_or_ge g w.heap.size with h1 | h1
 · exact h1
 · unfold Blk at h;rw [Array.getElem?_eq_none h1] at h;cases h
theorem Blk.cell (h:Blk w g cs t) (i:Nat):w.cell? ⟨g,i,none⟩=cs[i]?:=by
 unfold Blk at h
 simp [World.cell?,h]
theorem Blk.frozen (h:Blk w g cs t) (i:Nat):w.frozen? ⟨g,i,none⟩=false:=by
 unfold Blk at h
 simp [World.frozen?,h]
theorem Blk.new (w:World) (cs:Array Value) (t:TypeId):Blk (w.alloc (.cells cs t)) w.heap.size cs t:=by
 show (w.heap.push _)[w.heap.size]?=_
 simp
theorem Blk.alloc (h:Blk w g cs t) (o:Obj):Blk (w.alloc o) g cs t:=(Below.heap_alloc w o g h.lt).trans h
theorem Blk.drewN (h:Blk w g cs t) (n:Nat):Blk (w.drewN n) g cs t:=h
theorem Blk.put (h:Blk w g cs t) (i:Nat) (u:Value):Blk (w.setCell ⟨g,i,none⟩ u) g (cs.setIfInBounds i u) t:=by
 unfold Blk at h ⊢
 simp [World.setCell,Array.getElem?_modify,h]
theorem Blk.far (h:Blk w g cs t) {p:Addr} (hp:g≠p.block) (u:Value):Blk (w.setCell p u) g cs t:=(Below.heap_setCell w p u g hp).trans h
theorem Blk.below {B:Nat} (h:Blk w g cs t) (hb:Below B w w') (hg:g<B):Blk w' g cs t:=(hb.block g hg).trans h
theorem Blk.call (h:Blk w g cs t) (hb:Below w.heap.size w w'):Blk w' g cs t:=h.below hb h.lt
theorem Blk.is (h:Blk w g cs t) {cs':Array Value} (e:cs=cs'):Blk w g cs' t:=e▸h
end
theorem hide {p:Prop} (h:p):Hid p:=h
theorem unhide {p:Prop} (h:Hid p):p:=h
end Go.Proofs.YtpplemjjeefpdaaGreatDoor
namespace Go.Proofs.YtpplemjjeefpdaaGreatDoor
open Go Go.RowKit
namespace Ab
mutual
def flatV:V→Option Value
 | .t (.flat v)=>if oneV v then some v else none
 | .agg cs=>match flatL cs with
   | some l=>if cs.all V.cellB then some (.agg l.toArray) else none
   | none=>none
 | .tup cs=>match flatL cs with
   | some l=>some (.tuple l.toArray)
   | none=>none
 | _=>none
def flatL:List V→Option (List Value)
 | []=>some []
 | v::r=>match flatV v,flatL r with
   | some x,some l=>some (x::l)
   | _,_=>none
end
theorem flatL_get:∀{l:List V} {m:List Value},flatL l=some m→m.length=l.length∧∀(i:Nat) (c:V),l[i]?=some c→∃x,m[i]?=some x∧flatV c=some x
 | [],m,h=>by simp only [flatL,Option.some.injEq] at h;subst h;exact ⟨rfl,fun i c h=>by simp at h⟩
 | v ::r,m,h=>by
   simp only [flatL] at h
   split at h
   · rename_i x l hx hl
     cases h
     obtain ⟨h1,h2⟩:=flatL_get hl
     refine ⟨by simp [h1],fun i c hc=>?_⟩
     cases i with
     | zero=>simp at hc;subst hc;exact ⟨x,rfl,hx⟩
     | succ i=>exact h2 i c (by simpa using hc)
   · cases h
theorem flat_in {cx:Cx} {w:World} {v:V} {u:Value} (h:VRep cx w v u):∀{x},flatV v=some x→u=x:=by
 have many:∀{cs:List V} {vs:Array Value},vs.size=cs.length→(∀(i:Nat) (c:V) (u:Value),cs[i]?=some c→vs[i]?=some u→∀{x},flatV c=some x→u=x)→∀{l},flatL cs=some l→vs=l.toArray:=fun {cs vs} hn ih {l} hl=>by
  obtain ⟨h1,h2⟩:=flatL_get hl
  apply Array.ext
  · simp [hn,h1]
  · intro i hi1 hi2
    have hi:i<cs.length:=by omega
    obtain ⟨x,h3,h4⟩:=h2 i _ (List.getElem?_eq_getElem hi)
    have:=ih i _ _ (List.getElem?_eq_getElem hi) (Array.getElem?_eq_getElem hi1) h4
    rw [this]
    simp only [List.getElem_toArray]
    rw [List.getElem?_eq_getElem (by omega)] at h3
    exact (Option.some.inj h3).symm
 induction h with
 | t x v h=>
   intro y e
   cases h with
   | flat v h=>simp only [flatV,h,if_true,Option.some.injEq] at e;exact e
   | slc=>simp [flatV] at e
 | agg cs vs hn hcb hr ih=>
   intro y e
   simp only [flatV] at e
   split at e
   · rename_i l hl
     split at e
     · cases e;rw [many hn ih hl]
     · cases e
   · cases e
 | tup cs vs hn hr ih=>
   intro y e
   simp only [flatV] at e
   split at e
   · rename_i l hl
     cases e
     rw [many hn ih hl]
   · cases e
 | _=>intro y e;simp [flatV] at e
mutual
theorem flat_out {cx:Cx} {w:World}:∀{v:V} {x:Value},flatV v=some x→VRep cx w v x
 | .t (.flat v),x,e=>by
   simp only [flatV] at e
   split at e
   · rename_i h;cases e;exact .t _ _ (.flat _ h)
   · cases e
 | .agg cs,x,e=>by
   simp only [flatV] at e
   split at e
   · rename_i l hl
     split at e
     · rename_i hc
       cases e
       obtain ⟨h1,h2⟩:=flats_out hl
       exact .agg cs _ (by simpa using h1) (fun c hcc=>List.all_eq_true.1 hc c hcc) fun i c u q1 q2=>h2 i c u q1 (by simpa using q2)
     · cases e
   · cases e
 | .tup cs,x,e=>by
   simp only [flatV] at e
   split at e
   · rename_i l hl
     cases e
     obtain ⟨h1,h2⟩:=flats_out hl
     exact .tup cs _ (by simpa using h1) fun i c u q1 q2=>h2 i c u q1 (by simpa using q2)
   · cases e
 | .t (.slc _),x,e=>by simp [flatV] at e
 | .lst _,x,e=>by simp [flatV] at e
 | .ptr _ _,x,e=>by simp [flatV] at e
 | .elt _ _ _,x,e=>by simp [flatV] at e
 | .ipt _ _,x,e=>by simp [flatV] at e
 | .fn _ _,x,e=>by simp [flatV] at e
 | .ifc _ _,x,e=>by simp [flatV] at e
 | .junk,x,e=>by simp [flatV] at e
theorem flats_out {cx:Cx} {w:World}:∀{cs:List V} {l:List Value},flatL cs=some l→l.length=cs.length∧∀(i:Nat) (c:V) (u:Value),cs[i]?=some c→l[i]?=some u→VRep cx w c u
 | [],l,e=>by simp only [flatL,Option.some.injEq] at e;subst e;exact ⟨rfl,fun i c u h=>by simp at h⟩
 | v ::r,l,e=>by
   simp only [flatL] at e
   split at e
   · rename_i x m hx hm
     cases e
     obtain ⟨h1,h2⟩:=flats_out (cx:=cx) (w:=w) hm
     refine ⟨by simp [h1],fun i c u q1 q2=>?_⟩
     cases i with
     | zero=>simp at q1 q2;subst q1;subst q2;exact flat_out hx
     | succ i=>exact h2 i c u (by simpa using q1) (by simpa using q2)
   · cases e
end
theorem fun_elder {P:Program} {f:FuncId} {args:List V} {v:V} {vals:List Value} {u:Value} (hcall:Callable P f) (ha:flatL args=some vals) (hv:flatV v=some u)
 (h:∀(G:Nat→Prop) (w:World),Tab G w→(∀b,G b→b<w.heap.size)→Calls P f vals.toArray w fun e w'=>e=.returned u∧Below w.heap.size w w'):Fun P f args v:=
 ⟨hcall,fun G w cargs hG hT hargs=>by
  have:cargs=vals.toArray:=by
   have:=flat_in (.tup args cargs hargs.1 hargs.2) (x:=.tuple vals.toArray) (by simp only [flatV,ha])
   injection this
  subst this
  exact (h G w hT hG).mono fun e w' ⟨h1,h2⟩=>⟨u,h1,h2,flat_out hv⟩⟩
end Ab
end Go.Proofs.YtpplemjjeefpdaaGreatDoor
namespace Go.Proofs.YtpplemjjeefpdaaGreatDoor
open Go Go.RowKit
theorem bit_eq (x:BitVec 64) (k:Nat):(bits BinOp.and IntKind.u64 ((x.toNat:Int) / 2 ^ k) 1==1)=x.getLsbD k:=by
 have e1:((x.toNat:Int) / 2 ^ k)=((x.toNat / 2 ^ k:Nat):Int):=by simp
 have hlt:x.toNat / 2 ^ k<18446744073709551616:=Nat.lt_of_le_of_lt (Nat.div_le_self _ _) x.isLt
 have h2:=u64_and_nat (x.toNat / 2 ^ k) 1 hlt (by decide)
 rw [e1]
 rw [show ((1:Nat):Int)=1 from rfl] at h2
 rw [h2,nat_mask1,BitVec.getLsbD,Nat.testBit_eq_decide_div_mod_eq,Bool.eq_iff_iff]
 simp
 omega
theorem has_any (S:CSet) (b:Nat) (hb:b<256) (w:World):Calls Tryz.prog 222 #[.agg #[.int .u64 ((S).a.toNat:Int),.int .u64 ((S).b.toNat:Int),.int .u64 ((S).c.toNat:Int),.int .u64 ((S).d.toNat:Int)],.int .u8 b] w (RetG (.bool (S.has b)) w):=by
 have h4:b / 64=0∨b / 64=1∨b / 64=2∨b / 64=3:=by omega
 unfold CSet.has
 rcases h4 with h4 | h4 | h4 | h4
 all_goals
  have e1:((b:Int) / 64)=((b / 64:Nat):Int):=by omega
  rw [h4] at e1 ⊢
  go_enter Tryz.func222,Tryz.ntmps222
  go_wp2
  go_ret
  refine ⟨?_,(Below.refl _ _).alloc (Nat.le_refl _) _⟩
  rw [←bit_eq]
  rfl
theorem two_pow_toNat (m:Nat) (hm:m<64):(1#64<<<m).toNat=2 ^ m:=by
 rw [BitVec.toNat_shiftLeft]
 simp
 rw [Nat.shiftLeft_eq,Nat.one_mul]
 exact Nat.mod_eq_of_lt (Nat.pow_lt_pow_right (by decide) hm)
theorem wrap_pow (m:Nat) (hm:m<64):IntKind.u64.wrap (2 ^ m)=((2 ^ m:Nat):Int):=by
 rw [IntKind.wrap_u64]
 have h:(2 ^ m:Nat)<18446744073709551616:=Nat.lt_of_lt_of_le (Nat.pow_lt_pow_right (by decide) hm) (by decide)
 have e:((2:Int) ^ m)=((2 ^ m:Nat):Int):=by simp
 rw [e]
 exact Int.emod_eq_of_lt (Int.natCast_nonneg _) (Int.ofNat_lt.2 h)
theorem or_bit (x:BitVec 64) (m:Nat) (hm:m<64):bits BinOp.or IntKind.u64 (x.toNat:Int) (IntKind.u64.wrap (2 ^ m))=((x||| (1#64<<<m)).toNat:Int):=by
 have h:(2 ^ m:Nat)<18446744073709551616:=Nat.lt_of_lt_of_le (Nat.pow_lt_pow_right (by decide) hm) (by decide)
 rw [wrap_pow m hm,u64_or_nat _ _ x.isLt h,BitVec.toNat_or,two_pow_toNat m hm]
theorem cells_put (S:CSet) (b i:Nat) (h:b / 64=i) (hb:b<256):
 (#[.int .u64 ((S).a.toNat:Int),.int .u64 ((S).b.toNat:Int),.int .u64 ((S).c.toNat:Int),.int .u64 ((S).d.toNat:Int)]:Array Value).setIfInBounds i (.int .u64 (bits BinOp.or IntKind.u64 ((S.word i).toNat:Int) (IntKind.u64.wrap (2 ^ (b % 64)))))=#[.int .u64 ((S.put b).a.toNat:Int),.int .u64 ((S.put b).b.toNat:Int),.int .u64 ((S.put b).c.toNat:Int),.int .u64 ((S.put b).d.toNat:Int)]:=by
 rw [or_bit _ _ (by omega)]
 unfold CSet.put
 rw [h]
 have h1:i=0∨i=1∨i=2∨i=3:=by omega
 rcases h1 with rfl | rfl | rfl | rfl<;>rfl
theorem of_any (lo hi:Nat) (hlo:lo<256) (hhi:hi<256) (w:World):Calls Tryz.prog 182 #[.int .u8 lo,.int .u8 hi] w (RetG (.agg #[.int .u64 ((CSet.between lo hi).a.toNat:Int),.int .u64 ((CSet.between lo hi).b.toNat:Int),.int .u64 ((CSet.between lo hi).c.toNat:Int),.int .u64 ((CSet.between lo hi).d.toNat:Int)]) w):=by
 go_enter Tryz.func182,Tryz.ntmps182
 go_wp2
 go_loopw [6] (fun v wr=>∃k n:Nat,(k=0∨lo+k≤hi+1)∧v=.int .i64 (lo+k:Nat)∧wr=((w.alloc (.cells #[.int .u64 0,.int .u64 0,.int .u64 0,.int .u64 0] 78)).alloc (.cells #[.int .u64 ((CSet.span lo k).a.toNat:Int),.int .u64 ((CSet.span lo k).b.toNat:Int),.int .u64 ((CSet.span lo k).c.toNat:Int),.int .u64 ((CSet.span lo k).d.toNat:Int)] 78)).drewN n) (fun v _=>hi+1-(intOf v).toNat)
 case atStart=>exact ⟨0,0,.inl rfl,rfl,rfl⟩
 case round=>
  obtain ⟨k,n,hk,rfl,rfl⟩:=hrel
  by_cases hlt:lo+k≤hi
  · have h4:(lo+k) / 64=0∨(lo+k) / 64=1∨(lo+k) / 64=2∨(lo+k) / 64=3:=by omega
    rcases h4 with h4 | h4 | h4 | h4
    all_goals
     have e1:(((lo+k:Nat):Int) / 64)=(((lo+k) / 64:Nat):Int):=by omega
     have hp:=cells_put (CSet.span lo k) (lo+k) _ h4 (by omega)
     have HP:=hid_mk hp
     rw [h4] at e1
     clear hk hp
     go_wp2
     go_region
     go_wp2
     go_roundw
     case rel=>exact ⟨k+1,n+1,by omega,by go_num,by
      exact congrArg (fun c=>((w.alloc (.cells #[.int .u64 0,.int .u64 0,.int .u64 0,.int .u64 0] 78)).alloc (.cells c 78)).drewN (n+1)) HP.out⟩
     case measure=>simp [intOf];omega
  · have hn:CSet.span lo k=CSet.between lo hi:=by
     unfold CSet.between
     rcases hk with rfl | hk
     · rw [show hi+1-lo=0 by omega]
     · rw [show hi+1-lo=k by omega]
    rw [hn]
    clear hn hk
    go_wp2
    refine bodyPost_ret (v:=.agg #[.int .u64 ((CSet.between lo hi).a.toNat:Int),.int .u64 ((CSet.between lo hi).b.toNat:Int),.int .u64 ((CSet.between lo hi).c.toNat:Int),.int .u64 ((CSet.between lo hi).d.toNat:Int)]) (by simp [results,Tryz.results182,go_sem]) rfl ⟨rfl,(by repeat (first | exact Below.refl _ _ | assumption | refine Below.setCell ?_ (by first | omega | (simp<;>omega)) _ | refine Below.alloc ?_ (by first | omega | (simp<;>omega)) _ | refine below_drewN ?_ _ | refine Below.drew ?_))⟩
theorem or_word (x y:BitVec 64):bits BinOp.or IntKind.u64 (x.toNat:Int) (y.toNat:Int)=((x||| y).toNat:Int):=by
 rw [u64_or_nat _ _ x.isLt y.isLt,BitVec.toNat_or]
theorem or_any (S T:CSet) (w:World):Calls Tryz.prog 188 #[.agg #[.int .u64 ((S).a.toNat:Int),.int .u64 ((S).b.toNat:Int),.int .u64 ((S).c.toNat:Int),.int .u64 ((S).d.toNat:Int)],.agg #[.int .u64 ((T).a.toNat:Int),.int .u64 ((T).b.toNat:Int),.int .u64 ((T).c.toNat:Int),.int .u64 ((T).d.toNat:Int)]] w (RetG (.agg #[.int .u64 ((S.or T).a.toNat:Int),.int .u64 ((S.or T).b.toNat:Int),.int .u64 ((S.or T).c.toNat:Int),.int .u64 ((S.or T).d.toNat:Int)]) w):=by
 go_enter Tryz.func188,Tryz.ntmps188
 go_wp2
 go_loopw [5,6] (fun _ v wr=>∃k n:Nat,k≤4∧v=.int .i64 (k:Nat)∧wr=(((w.alloc (.cells #[.int .u64 ((S.mix (S.or T) k).a.toNat:Int),.int .u64 ((S.mix (S.or T) k).b.toNat:Int),.int .u64 ((S.mix (S.or T) k).c.toNat:Int),.int .u64 ((S.mix (S.or T) k).d.toNat:Int)] 78)).alloc (.cells #[.int .u64 ((T).a.toNat:Int),.int .u64 ((T).b.toNat:Int),.int .u64 ((T).c.toNat:Int),.int .u64 ((T).d.toNat:Int)] 78)).alloc (.cells #[.int .u64 0,.int .u64 0,.int .u64 0,.int .u64 0] 78)).drewN n) (fun _ v _=>4-(intOf v).toNat)
 case atStart=>exact ⟨0,0,by omega,rfl,rfl⟩
 case round=>
  obtain ⟨k,n,hk,rfl,rfl⟩:=hrel
  have h5:k=0∨k=1∨k=2∨k=3∨k=4:=by omega
  have e0:S.mix (S.or T) 0=⟨S.a,S.b,S.c,S.d⟩:=rfl
  have e1:S.mix (S.or T) 1=⟨S.a||| T.a,S.b,S.c,S.d⟩:=rfl
  have e2:S.mix (S.or T) 2=⟨S.a||| T.a,S.b||| T.b,S.c,S.d⟩:=rfl
  have e3:S.mix (S.or T) 3=⟨S.a||| T.a,S.b||| T.b,S.c||| T.c,S.d⟩:=rfl
  have e4:S.mix (S.or T) 4=S.or T:=rfl
  rcases h5 with rfl | rfl | rfl | rfl | rfl
  · rw [e0];clear e0 e1 e2 e3 e4
    go_wp2
    go_region
    go_wp2
    go_roundw
    case rel=>exact ⟨1,n+1,by omega,rfl,by rw [or_word];rfl⟩
    case measure=>simp [intOf]
  · rw [e1];clear e0 e1 e2 e3 e4
    go_wp2
    go_region
    go_wp2
    go_roundw
    case rel=>exact ⟨2,n+1,by omega,rfl,by rw [or_word];rfl⟩
    case measure=>simp [intOf]
  · rw [e2];clear e0 e1 e2 e3 e4
    go_wp2
    go_region
    go_wp2
    go_roundw
    case rel=>exact ⟨3,n+1,by omega,rfl,by rw [or_word];rfl⟩
    case measure=>simp [intOf]
  · rw [e3];clear e0 e1 e2 e3 e4
    go_wp2
    go_region
    go_wp2
    go_roundw
    case rel=>exact ⟨4,n+1,by omega,rfl,by rw [or_word];rfl⟩
    case measure=>simp [intOf]
  · rw [e4];clear e0 e1 e2 e3 e4
    go_wp2
    refine bodyPost_ret (v:=.agg #[.int .u64 ((S.or T).a.toNat:Int),.int .u64 ((S.or T).b.toNat:Int),.int .u64 ((S.or T).c.toNat:Int),.int .u64 ((S.or T).d.toNat:Int)]) (by simp [results,Tryz.results188,go_sem]) rfl ⟨rfl,(by repeat (first | exact Below.refl _ _ | assumption | refine Below.setCell ?_ (by first | omega | (simp<;>omega)) _ | refine Below.alloc ?_ (by first | omega | (simp<;>omega)) _ | refine below_drewN ?_ _ | refine Below.drew ?_))⟩
end Go.Proofs.YtpplemjjeefpdaaGreatDoor
namespace Go.Proofs.YtpplemjjeefpdaaGreatDoor
open Go Go.RowKit
theorem not_word (x:BitVec 64):bits BinOp.xor IntKind.u64 (if IntKind.u64.signed=true then-1 else IntKind.u64.max) (x.toNat:Int)=((~~~x).toNat:Int):=by
 have e:(if IntKind.u64.signed=true then-1 else IntKind.u64.max)=((18446744073709551615:Nat):Int):=by decide
 rw [e,u64_xor_nat _ _ (by decide) x.isLt]
 congr 1
theorem not_any (S:CSet) (w:World):Calls Tryz.prog 190 #[.agg #[.int .u64 ((S).a.toNat:Int),.int .u64 ((S).b.toNat:Int),.int .u64 ((S).c.toNat:Int),.int .u64 ((S).d.toNat:Int)]] w (RetG (.agg #[.int .u64 ((S.not).a.toNat:Int),.int .u64 ((S.not).b.toNat:Int),.int .u64 ((S.not).c.toNat:Int),.int .u64 ((S.not).d.toNat:Int)]) w):=by
 obtain ⟨R,hR⟩:∃R,R=S.not:=⟨_,rfl⟩
 rw [←hR]
 have HR:=hid_mk hR
 clear hR
 go_enter Tryz.func190,Tryz.ntmps190
 go_wp2
 go_loopw [3,4] (fun _ v wr=>∃k n:Nat,k≤4∧v=.int .i64 (k:Nat)∧wr=((w.alloc (.cells #[.int .u64 ((S.mix R k).a.toNat:Int),.int .u64 ((S.mix R k).b.toNat:Int),.int .u64 ((S.mix R k).c.toNat:Int),.int .u64 ((S.mix R k).d.toNat:Int)] 78)).alloc (.cells #[.int .u64 0,.int .u64 0,.int .u64 0,.int .u64 0] 78)).drewN n) (fun _ v _=>4-(intOf v).toNat)
 case atStart=>exact ⟨0,0,by omega,rfl,rfl⟩
 case round=>
  obtain ⟨k,n,hk,rfl,rfl⟩:=hrel
  have h5:k=0∨k=1∨k=2∨k=3∨k=4:=by omega
  have e0:S.mix R 0=⟨S.a,S.b,S.c,S.d⟩:=rfl
  have e1:S.mix R 1=⟨R.a,S.b,S.c,S.d⟩:=rfl
  have e2:S.mix R 2=⟨R.a,R.b,S.c,S.d⟩:=rfl
  have e3:S.mix R 3=⟨R.a,R.b,R.c,S.d⟩:=rfl
  have e4:S.mix R 4=R:=rfl
  rcases h5 with rfl | rfl | rfl | rfl | rfl
  · rw [e0];clear e0 e1 e2 e3 e4
    go_wp2
    go_roundw
    case rel=>exact ⟨1,n,by omega,rfl,by rw [not_word,show ~~~S.a=R.a by rw [HR.out];rfl];rfl⟩
    case measure=>simp [intOf]
  · rw [e1];clear e0 e1 e2 e3 e4
    go_wp2
    go_roundw
    case rel=>exact ⟨2,n,by omega,rfl,by rw [not_word,show ~~~S.b=R.b by rw [HR.out];rfl];rfl⟩
    case measure=>simp [intOf]
  · rw [e2];clear e0 e1 e2 e3 e4
    go_wp2
    go_roundw
    case rel=>exact ⟨3,n,by omega,rfl,by rw [not_word,show ~~~S.c=R.c by rw [HR.out];rfl];rfl⟩
    case measure=>simp [intOf]
  · rw [e3];clear e0 e1 e2 e3 e4
    go_wp2
    go_roundw
    case rel=>exact ⟨4,n,by omega,rfl,by rw [not_word,show ~~~S.d=R.d by rw [HR.out];rfl];rfl⟩
    case measure=>simp [intOf]
  · rw [e4];clear e0 e1 e2 e3 e4
    go_wp2
    refine bodyPost_ret (v:=.agg #[.int .u64 ((R).a.toNat:Int),.int .u64 ((R).b.toNat:Int),.int .u64 ((R).c.toNat:Int),.int .u64 ((R).d.toNat:Int)]) (by simp [results,Tryz.results190,go_sem]) rfl ⟨rfl,(by repeat (first | exact Below.refl _ _ | assumption | refine Below.setCell ?_ (by first | omega | (simp<;>omega)) _ | refine Below.alloc ?_ (by first | omega | (simp<;>omega)) _ | refine below_drewN ?_ _ | refine Below.drew ?_))⟩
theorem bit2_eq (x:BitVec 64) (k:Nat):(((x.toNat / 2 ^ k:Nat):Int) % 2==1)=x.getLsbD k:=by
 rw [BitVec.getLsbD,Nat.testBit_eq_decide_div_mod_eq]
 generalize x.toNat / 2 ^ k=y
 rw [Bool.eq_iff_iff]
 simp
 omega
theorem rhas_any (S:CSet) (b:Nat) (hb:b<256) (w:World):Calls Tryz.prog 158 #[.agg #[.int .u64 ((S).a.toNat:Int),.int .u64 ((S).b.toNat:Int),.int .u64 ((S).c.toNat:Int),.int .u64 ((S).d.toNat:Int)],.int .i64 b] w (RetG (.bool (S.has b)) w):=by
 have h4:b / 64=0∨b / 64=1∨b / 64=2∨b / 64=3:=by omega
 unfold CSet.has
 rcases h4 with h4 | h4 | h4 | h4
 all_goals
  have e1:((b:Int) / 64)=((b / 64:Nat):Int):=by omega
  rw [h4] at e1 ⊢
  obtain ⟨x,hx⟩:∃x,x=S.word (b / 64):=⟨_,rfl⟩
  rw [h4] at hx
  rw [←hx]
  have HX:=hid_mk hx
  go_enter Tryz.func158,Tryz.ntmps158
  go_wp2
  go_loop [5,6] (fun y v=>∃k:Nat,k≤b % 64∧v=.int .i64 k∧y=.int .u64 ((x.toNat / 2 ^ k:Nat):Int)) (fun _ v=>b % 64-(intOf v).toNat)
  case atStart=>exact ⟨0,by omega,rfl,by rw [HX.out];simp [CSet.word]⟩
  case round=>
   obtain ⟨k,hk,rfl,rfl⟩:=hrel
   have hxl:=x.isLt
   have hy:x.toNat / 2 ^ k≤18446744073709551615:=Nat.le_trans (Nat.div_le_self _ _) (by omega)
   have hs:x.toNat / 2 ^ (k+1)=x.toNat / 2 ^ k / 2:=by rw [Nat.pow_succ,Nat.div_div_eq_div_mul]
   by_cases hlt:k<b % 64
   · have HS:=hid_mk hs
     generalize x.toNat / 2 ^ k=y at *
     clear hx hs hxl
     go_wp2
     go_round
     case rel=>exact ⟨k+1,by omega,by go_num,by rw [HS.out];go_num⟩
     case measure=>simp [intOf];omega
   · have hk2:b % 64=k:=by omega
     have hb2:=bit2_eq x k
     have HB:=hid_mk hb2
     have HK:=hid_mk hk2
     clear hb2
     generalize x.toNat / 2 ^ k=y at *
     clear hx hs hxl hk2
     go_wp2
     go_ret
     exact ⟨by rw [HK.out,←HB.out];rfl,(by repeat (first | exact Below.refl _ _ | assumption | refine Below.setCell ?_ (by first | omega | (simp<;>omega)) _ | refine Below.alloc ?_ (by first | omega | (simp<;>omega)) _ | refine below_drewN ?_ _ | refine Below.drew ?_))⟩
theorem add_bit (x:BitVec 64) (m:Nat) (hm:m<64) (h:x.getLsbD m=false):((x.toNat:Int)+(2 ^ m:Nat)) % 18446744073709551616=((x||| (1#64<<<m)).toNat:Int):=by
 have h0:x&&& (1#64<<<m)=0#64:=by
  apply BitVec.eq_of_getLsbD_eq
  intro i hi
  rw [BitVec.getLsbD_and,BitVec.getLsbD_shiftLeft]
  by_cases e:i=m
  · subst e;simp [h]
  · by_cases h4:i<m
    · simp [h4]
    · have:i-m≠0:=by omega
      simp [h4,hi,this]
 rw [←BitVec.add_eq_or_of_and_eq_zero x _ h0,BitVec.toNat_add,two_pow_toNat m hm]
 show _=(((x.toNat+2 ^ m) % 18446744073709551616:Nat):Int)
 generalize 2 ^ m=q
 omega
theorem rwith_no0 (S:CSet) (b:Nat) (hb:b<256) (w:World) (HC:Hid (∀w,Calls Tryz.prog 158 #[.agg #[.int .u64 ((S).a.toNat:Int),.int .u64 ((S).b.toNat:Int),.int .u64 ((S).c.toNat:Int),.int .u64 ((S).d.toNat:Int)],.int .i64 b] w (RetG (.bool false) w))) (hh:(S.word (b / 64)).getLsbD (b % 64)=false) (h4:b / 64=0):
 Calls Tryz.prog 175 #[.agg #[.int .u64 ((S).a.toNat:Int),.int .u64 ((S).b.toNat:Int),.int .u64 ((S).c.toNat:Int),.int .u64 ((S).d.toNat:Int)],.int .i64 b] w (RetG (.agg #[.int .u64 ((S.setWord (b / 64) (S.word (b / 64)||| (1#64<<<(b % 64)))).a.toNat:Int),.int .u64 ((S.setWord (b / 64) (S.word (b / 64)||| (1#64<<<(b % 64)))).b.toNat:Int),.int .u64 ((S.setWord (b / 64) (S.word (b / 64)||| (1#64<<<(b % 64)))).c.toNat:Int),.int .u64 ((S.setWord (b / 64) (S.word (b / 64)||| (1#64<<<(b % 64)))).d.toNat:Int)]) w):=by
 have e1:((b:Int) / 64)=((b / 64:Nat):Int):=by omega
 rw [h4] at e1 hh ⊢
 obtain ⟨x,hx⟩:∃x,x=S.word (b / 64):=⟨_,rfl⟩
 rw [h4] at hx
 rw [←hx] at hh ⊢
 have ha:=add_bit x (b % 64) (by omega) hh
 generalize x||| (1#64<<<(b % 64))=y at *
 have HX:=hid_mk (And.intro hx (And.intro hh ha))
 have hxl:=x.isLt
 have d1:decide ((b:Int)<0)=false:=by simp
 have d2:decide (255<(b:Int))=false:=by simp;omega
 clear hx hh ha
 go_enter Tryz.func175,Tryz.ntmps175
 go_wp2_with fail
 refine (unhide HC _).mono ?_
 rintro e w1 ⟨rfl,hb1⟩
 (obtain ⟨hc1,hf1⟩:=bcell hb1;have hz1:w.heap.size+1<w1.heap.size:=(by have:=hb1.size;simp at this;omega);have HB1:=hid_mk (bthen (B:=w.heap.size) (a:=w) (by repeat (first | exact Below.refl _ _ | assumption | refine Below.setCell ?_ (by first | omega | (simp<;>omega)) _ | refine Below.alloc ?_ (by first | omega | (simp<;>omega)) _ | refine below_drewN ?_ _ | refine Below.drew ?_)) (by first | exact Nat.le_refl _ | omega | (simp<;>omega)) hb1);clear hb1)
 have g0:w1.cell? ⟨w.heap.size,0,none⟩=some (.int .u64 (S.a.toNat:Int)):=by rw [hc1 _ _ (by first | omega | (simp<;>omega))];simp
 have g1:w1.cell? ⟨w.heap.size,1,none⟩=some (.int .u64 (S.b.toNat:Int)):=by rw [hc1 _ _ (by first | omega | (simp<;>omega))];simp
 have g2:w1.cell? ⟨w.heap.size,2,none⟩=some (.int .u64 (S.c.toNat:Int)):=by rw [hc1 _ _ (by first | omega | (simp<;>omega))];simp
 have g3:w1.cell? ⟨w.heap.size,3,none⟩=some (.int .u64 (S.d.toNat:Int)):=by rw [hc1 _ _ (by first | omega | (simp<;>omega))];simp
 go_wp2
 go_loop [5,6] (fun q v=>∃k:Nat,k≤b % 64∧v=.int .i64 k∧q=.int .u64 ((2 ^ k:Nat):Int)) (fun _ v=>b % 64-(intOf v).toNat)
 case atStart=>exact ⟨0,by omega,rfl,by simp⟩
 case round=>
  obtain ⟨k,hk,rfl,rfl⟩:=hrel
  have hm:b % 64<64:=Nat.mod_lt _ (by decide)
  have hq:2 ^ k≤9223372036854775808:=Nat.pow_le_pow_right (n:=2) (by decide) (show k≤63 by omega)
  have hs:2 ^ (k+1)=2 ^ k*2:=Nat.pow_succ 2 k
  by_cases hlt:k<b % 64
  · have hq2:2 ^ k≤4611686018427387904:=Nat.pow_le_pow_right (n:=2) (by decide) (show k≤62 by omega)
    have HS:=hid_mk hs
    generalize 2 ^ k=q at *
    clear hs
    go_wp2
    go_round
    case rel=>exact ⟨k+1,by omega,by go_num,by rw [HS.out];go_num⟩
    case measure=>(simp [intOf];try omega)
  · have hk2:b % 64=k:=by omega
    have HA:=HX.out.2.2
    rw [hk2] at HA
    generalize 2 ^ k=q at *
    have hw:IntKind.u64.wrap ((x.toNat:Int)+(q:Int))=(y.toNat:Int):=by rw [IntKind.wrap_u64];exact HA
    rw [HX.out.1] at hw
    simp only [CSet.word] at hw
    clear HA hs hk2
    go_wp2
    refine bodyPost_ret (v:=.agg #[.int .u64 ((S.setWord (b / 64) y).a.toNat:Int),.int .u64 ((S.setWord (b / 64) y).b.toNat:Int),.int .u64 ((S.setWord (b / 64) y).c.toNat:Int),.int .u64 ((S.setWord (b / 64) y).d.toNat:Int)]) (by rw [h4];simp [results,Tryz.results175,go_sem,hc1,hz1,g0,g1,g2,g3,CSet.setWord]) rfl ⟨by rw [h4],?_⟩
    have hb2:=HB1.out
    exact (by repeat (first | exact Below.refl _ _ | assumption | refine Below.setCell ?_ (by first | omega | (simp<;>omega)) _ | refine Below.alloc ?_ (by first | omega | (simp<;>omega)) _ | refine below_drewN ?_ _ | refine Below.drew ?_))
theorem rwith_no1 (S:CSet) (b:Nat) (hb:b<256) (w:World) (HC:Hid (∀w,Calls Tryz.prog 158 #[.agg #[.int .u64 ((S).a.toNat:Int),.int .u64 ((S).b.toNat:Int),.int .u64 ((S).c.toNat:Int),.int .u64 ((S).d.toNat:Int)],.int .i64 b] w (RetG (.bool false) w))) (hh:(S.word (b / 64)).getLsbD (b % 64)=false) (h4:b / 64=1):
 Calls Tryz.prog 175 #[.agg #[.int .u64 ((S).a.toNat:Int),.int .u64 ((S).b.toNat:Int),.int .u64 ((S).c.toNat:Int),.int .u64 ((S).d.toNat:Int)],.int .i64 b] w (RetG (.agg #[.int .u64 ((S.setWord (b / 64) (S.word (b / 64)||| (1#64<<<(b % 64)))).a.toNat:Int),.int .u64 ((S.setWord (b / 64) (S.word (b / 64)||| (1#64<<<(b % 64)))).b.toNat:Int),.int .u64 ((S.setWord (b / 64) (S.word (b / 64)||| (1#64<<<(b % 64)))).c.toNat:Int),.int .u64 ((S.setWord (b / 64) (S.word (b / 64)||| (1#64<<<(b % 64)))).d.toNat:Int)]) w):=by
 have e1:((b:Int) / 64)=((b / 64:Nat):Int):=by omega
 rw [h4] at e1 hh ⊢
 obtain ⟨x,hx⟩:∃x,x=S.word (b / 64):=⟨_,rfl⟩
 rw [h4] at hx
 rw [←hx] at hh ⊢
 have ha:=add_bit x (b % 64) (by omega) hh
 generalize x||| (1#64<<<(b % 64))=y at *
 have HX:=hid_mk (And.intro hx (And.intro hh ha))
 have hxl:=x.isLt
 have d1:decide ((b:Int)<0)=false:=by simp
 have d2:decide (255<(b:Int))=false:=by simp;omega
 clear hx hh ha
 go_enter Tryz.func175,Tryz.ntmps175
 go_wp2_with fail
 refine (unhide HC _).mono ?_
 rintro e w1 ⟨rfl,hb1⟩
 (obtain ⟨hc1,hf1⟩:=bcell hb1;have hz1:w.heap.size+1<w1.heap.size:=(by have:=hb1.size;simp at this;omega);have HB1:=hid_mk (bthen (B:=w.heap.size) (a:=w) (by repeat (first | exact Below.refl _ _ | assumption | refine Below.setCell ?_ (by first | omega | (simp<;>omega)) _ | refine Below.alloc ?_ (by first | omega | (simp<;>omega)) _ | refine below_drewN ?_ _ | refine Below.drew ?_)) (by first | exact Nat.le_refl _ | omega | (simp<;>omega)) hb1);clear hb1)
 have g0:w1.cell? ⟨w.heap.size,0,none⟩=some (.int .u64 (S.a.toNat:Int)):=by rw [hc1 _ _ (by first | omega | (simp<;>omega))];simp
 have g1:w1.cell? ⟨w.heap.size,1,none⟩=some (.int .u64 (S.b.toNat:Int)):=by rw [hc1 _ _ (by first | omega | (simp<;>omega))];simp
 have g2:w1.cell? ⟨w.heap.size,2,none⟩=some (.int .u64 (S.c.toNat:Int)):=by rw [hc1 _ _ (by first | omega | (simp<;>omega))];simp
 have g3:w1.cell? ⟨w.heap.size,3,none⟩=some (.int .u64 (S.d.toNat:Int)):=by rw [hc1 _ _ (by first | omega | (simp<;>omega))];simp
 go_wp2
 go_loop [5,6] (fun q v=>∃k:Nat,k≤b % 64∧v=.int .i64 k∧q=.int .u64 ((2 ^ k:Nat):Int)) (fun _ v=>b % 64-(intOf v).toNat)
 case atStart=>exact ⟨0,by omega,rfl,by simp⟩
 case round=>
  obtain ⟨k,hk,rfl,rfl⟩:=hrel
  have hm:b % 64<64:=Nat.mod_lt _ (by decide)
  have hq:2 ^ k≤9223372036854775808:=Nat.pow_le_pow_right (n:=2) (by decide) (show k≤63 by omega)
  have hs:2 ^ (k+1)=2 ^ k*2:=Nat.pow_succ 2 k
  by_cases hlt:k<b % 64
  · have hq2:2 ^ k≤4611686018427387904:=Nat.pow_le_pow_right (n:=2) (by decide) (show k≤62 by omega)
    have HS:=hid_mk hs
    generalize 2 ^ k=q at *
    clear hs
    go_wp2
    go_round
    case rel=>exact ⟨k+1,by omega,by go_num,by rw [HS.out];go_num⟩
    case measure=>(simp [intOf];try omega)
  · have hk2:b % 64=k:=by omega
    have HA:=HX.out.2.2
    rw [hk2] at HA
    generalize 2 ^ k=q at *
    have hw:IntKind.u64.wrap ((x.toNat:Int)+(q:Int))=(y.toNat:Int):=by rw [IntKind.wrap_u64];exact HA
    rw [HX.out.1] at hw
    simp only [CSet.word] at hw
    clear HA hs hk2
    go_wp2
    refine bodyPost_ret (v:=.agg #[.int .u64 ((S.setWord (b / 64) y).a.toNat:Int),.int .u64 ((S.setWord (b / 64) y).b.toNat:Int),.int .u64 ((S.setWord (b / 64) y).c.toNat:Int),.int .u64 ((S.setWord (b / 64) y).d.toNat:Int)]) (by rw [h4];simp [results,Tryz.results175,go_sem,hc1,hz1,g0,g1,g2,g3,CSet.setWord]) rfl ⟨by rw [h4],?_⟩
    have hb2:=HB1.out
    exact (by repeat (first | exact Below.refl _ _ | assumption | refine Below.setCell ?_ (by first | omega | (simp<;>omega)) _ | refine Below.alloc ?_ (by first | omega | (simp<;>omega)) _ | refine below_drewN ?_ _ | refine Below.drew ?_))
theorem rwith_no2 (S:CSet) (b:Nat) (hb:b<256) (w:World) (HC:Hid (∀w,Calls Tryz.prog 158 #[.agg #[.int .u64 ((S).a.toNat:Int),.int .u64 ((S).b.toNat:Int),.int .u64 ((S).c.toNat:Int),.int .u64 ((S).d.toNat:Int)],.int .i64 b] w (RetG (.bool false) w))) (hh:(S.word (b / 64)).getLsbD (b % 64)=false) (h4:b / 64=2):
 Calls Tryz.prog 175 #[.agg #[.int .u64 ((S).a.toNat:Int),.int .u64 ((S).b.toNat:Int),.int .u64 ((S).c.toNat:Int),.int .u64 ((S).d.toNat:Int)],.int .i64 b] w (RetG (.agg #[.int .u64 ((S.setWord (b / 64) (S.word (b / 64)||| (1#64<<<(b % 64)))).a.toNat:Int),.int .u64 ((S.setWord (b / 64) (S.word (b / 64)||| (1#64<<<(b % 64)))).b.toNat:Int),.int .u64 ((S.setWord (b / 64) (S.word (b / 64)||| (1#64<<<(b % 64)))).c.toNat:Int),.int .u64 ((S.setWord (b / 64) (S.word (b / 64)||| (1#64<<<(b % 64)))).d.toNat:Int)]) w):=by
 have e1:((b:Int) / 64)=((b / 64:Nat):Int):=by omega
 rw [h4] at e1 hh ⊢
 obtain ⟨x,hx⟩:∃x,x=S.word (b / 64):=⟨_,rfl⟩
 rw [h4] at hx
 rw [←hx] at hh ⊢
 have ha:=add_bit x (b % 64) (by omega) hh
 generalize x||| (1#64<<<(b % 64))=y at *
 have HX:=hid_mk (And.intro hx (And.intro hh ha))
 have hxl:=x.isLt
 have d1:decide ((b:Int)<0)=false:=by simp
 have d2:decide (255<(b:Int))=false:=by simp;omega
 clear hx hh ha
 go_enter Tryz.func175,Tryz.ntmps175
 go_wp2_with fail
 refine (unhide HC _).mono ?_
 rintro e w1 ⟨rfl,hb1⟩
 (obtain ⟨hc1,hf1⟩:=bcell hb1;have hz1:w.heap.size+1<w1.heap.size:=(by have:=hb1.size;simp at this;omega);have HB1:=hid_mk (bthen (B:=w.heap.size) (a:=w) (by repeat (first | exact Below.refl _ _ | assumption | refine Below.setCell ?_ (by first | omega | (simp<;>omega)) _ | refine Below.alloc ?_ (by first | omega | (simp<;>omega)) _ | refine below_drewN ?_ _ | refine Below.drew ?_)) (by first | exact Nat.le_refl _ | omega | (simp<;>omega)) hb1);clear hb1)
 have g0:w1.cell? ⟨w.heap.size,0,none⟩=some (.int .u64 (S.a.toNat:Int)):=by rw [hc1 _ _ (by first | omega | (simp<;>omega))];simp
 have g1:w1.cell? ⟨w.heap.size,1,none⟩=some (.int .u64 (S.b.toNat:Int)):=by rw [hc1 _ _ (by first | omega | (simp<;>omega))];simp
 have g2:w1.cell? ⟨w.heap.size,2,none⟩=some (.int .u64 (S.c.toNat:Int)):=by rw [hc1 _ _ (by first | omega | (simp<;>omega))];simp
 have g3:w1.cell? ⟨w.heap.size,3,none⟩=some (.int .u64 (S.d.toNat:Int)):=by rw [hc1 _ _ (by first | omega | (simp<;>omega))];simp
 go_wp2
 go_loop [5,6] (fun q v=>∃k:Nat,k≤b % 64∧v=.int .i64 k∧q=.int .u64 ((2 ^ k:Nat):Int)) (fun _ v=>b % 64-(intOf v).toNat)
 case atStart=>exact ⟨0,by omega,rfl,by simp⟩
 case round=>
  obtain ⟨k,hk,rfl,rfl⟩:=hrel
  have hm:b % 64<64:=Nat.mod_lt _ (by decide)
  have hq:2 ^ k≤9223372036854775808:=Nat.pow_le_pow_right (n:=2) (by decide) (show k≤63 by omega)
  have hs:2 ^ (k+1)=2 ^ k*2:=Nat.pow_succ 2 k
  by_cases hlt:k<b % 64
  · have hq2:2 ^ k≤4611686018427387904:=Nat.pow_le_pow_right (n:=2) (by decide) (show k≤62 by omega)
    have HS:=hid_mk hs
    generalize 2 ^ k=q at *
    clear hs
    go_wp2
    go_round
    case rel=>exact ⟨k+1,by omega,by go_num,by rw [HS.out];go_num⟩
    case measure=>(simp [intOf];try omega)
  · have hk2:b % 64=k:=by omega
    have HA:=HX.out.2.2
    rw [hk2] at HA
    generalize 2 ^ k=q at *
    have hw:IntKind.u64.wrap ((x.toNat:Int)+(q:Int))=(y.toNat:Int):=by rw [IntKind.wrap_u64];exact HA
    rw [HX.out.1] at hw
    simp only [CSet.word] at hw
    clear HA hs hk2
    go_wp2
    refine bodyPost_ret (v:=.agg #[.int .u64 ((S.setWord (b / 64) y).a.toNat:Int),.int .u64 ((S.setWord (b / 64) y).b.toNat:Int),.int .u64 ((S.setWord (b / 64) y).c.toNat:Int),.int .u64 ((S.setWord (b / 64) y).d.toNat:Int)]) (by rw [h4];simp [results,Tryz.results175,go_sem,hc1,hz1,g0,g1,g2,g3,CSet.setWord]) rfl ⟨by rw [h4],?_⟩
    have hb2:=HB1.out
    exact (by repeat (first | exact Below.refl _ _ | assumption | refine Below.setCell ?_ (by first | omega | (simp<;>omega)) _ | refine Below.alloc ?_ (by first | omega | (simp<;>omega)) _ | refine below_drewN ?_ _ | refine Below.drew ?_))
theorem rwith_no3 (S:CSet) (b:Nat) (hb:b<256) (w:World) (HC:Hid (∀w,Calls Tryz.prog 158 #[.agg #[.int .u64 ((S).a.toNat:Int),.int .u64 ((S).b.toNat:Int),.int .u64 ((S).c.toNat:Int),.int .u64 ((S).d.toNat:Int)],.int .i64 b] w (RetG (.bool false) w))) (hh:(S.word (b / 64)).getLsbD (b % 64)=false) (h4:b / 64=3):
 Calls Tryz.prog 175 #[.agg #[.int .u64 ((S).a.toNat:Int),.int .u64 ((S).b.toNat:Int),.int .u64 ((S).c.toNat:Int),.int .u64 ((S).d.toNat:Int)],.int .i64 b] w (RetG (.agg #[.int .u64 ((S.setWord (b / 64) (S.word (b / 64)||| (1#64<<<(b % 64)))).a.toNat:Int),.int .u64 ((S.setWord (b / 64) (S.word (b / 64)||| (1#64<<<(b % 64)))).b.toNat:Int),.int .u64 ((S.setWord (b / 64) (S.word (b / 64)||| (1#64<<<(b % 64)))).c.toNat:Int),.int .u64 ((S.setWord (b / 64) (S.word (b / 64)||| (1#64<<<(b % 64)))).d.toNat:Int)]) w):=by
 have e1:((b:Int) / 64)=((b / 64:Nat):Int):=by omega
 rw [h4] at e1 hh ⊢
 obtain ⟨x,hx⟩:∃x,x=S.word (b / 64):=⟨_,rfl⟩
 rw [h4] at hx
 rw [←hx] at hh ⊢
 have ha:=add_bit x (b % 64) (by omega) hh
 generalize x||| (1#64<<<(b % 64))=y at *
 have HX:=hid_mk (And.intro hx (And.intro hh ha))
 have hxl:=x.isLt
 have d1:decide ((b:Int)<0)=false:=by simp
 have d2:decide (255<(b:Int))=false:=by simp;omega
 clear hx hh ha
 go_enter Tryz.func175,Tryz.ntmps175
 go_wp2_with fail
 refine (unhide HC _).mono ?_
 rintro e w1 ⟨rfl,hb1⟩
 (obtain ⟨hc1,hf1⟩:=bcell hb1;have hz1:w.heap.size+1<w1.heap.size:=(by have:=hb1.size;simp at this;omega);have HB1:=hid_mk (bthen (B:=w.heap.size) (a:=w) (by repeat (first | exact Below.refl _ _ | assumption | refine Below.setCell ?_ (by first | omega | (simp<;>omega)) _ | refine Below.alloc ?_ (by first | omega | (simp<;>omega)) _ | refine below_drewN ?_ _ | refine Below.drew ?_)) (by first | exact Nat.le_refl _ | omega | (simp<;>omega)) hb1);clear hb1)
 have g0:w1.cell? ⟨w.heap.size,0,none⟩=some (.int .u64 (S.a.toNat:Int)):=by rw [hc1 _ _ (by first | omega | (simp<;>omega))];simp
 have g1:w1.cell? ⟨w.heap.size,1,none⟩=some (.int .u64 (S.b.toNat:Int)):=by rw [hc1 _ _ (by first | omega | (simp<;>omega))];simp
 have g2:w1.cell? ⟨w.heap.size,2,none⟩=some (.int .u64 (S.c.toNat:Int)):=by rw [hc1 _ _ (by first | omega | (simp<;>omega))];simp
 have g3:w1.cell? ⟨w.heap.size,3,none⟩=some (.int .u64 (S.d.toNat:Int)):=by rw [hc1 _ _ (by first | omega | (simp<;>omega))];simp
 go_wp2
 go_loop [5,6] (fun q v=>∃k:Nat,k≤b % 64∧v=.int .i64 k∧q=.int .u64 ((2 ^ k:Nat):Int)) (fun _ v=>b % 64-(intOf v).toNat)
 case atStart=>exact ⟨0,by omega,rfl,by simp⟩
 case round=>
  obtain ⟨k,hk,rfl,rfl⟩:=hrel
  have hm:b % 64<64:=Nat.mod_lt _ (by decide)
  have hq:2 ^ k≤9223372036854775808:=Nat.pow_le_pow_right (n:=2) (by decide) (show k≤63 by omega)
  have hs:2 ^ (k+1)=2 ^ k*2:=Nat.pow_succ 2 k
  by_cases hlt:k<b % 64
  · have hq2:2 ^ k≤4611686018427387904:=Nat.pow_le_pow_right (n:=2) (by decide) (show k≤62 by omega)
    have HS:=hid_mk hs
    generalize 2 ^ k=q at *
    clear hs
    go_wp2
    go_round
    case rel=>exact ⟨k+1,by omega,by go_num,by rw [HS.out];go_num⟩
    case measure=>(simp [intOf];try omega)
  · have hk2:b % 64=k:=by omega
    have HA:=HX.out.2.2
    rw [hk2] at HA
    generalize 2 ^ k=q at *
    have hw:IntKind.u64.wrap ((x.toNat:Int)+(q:Int))=(y.toNat:Int):=by rw [IntKind.wrap_u64];exact HA
    rw [HX.out.1] at hw
    simp only [CSet.word] at hw
    clear HA hs hk2
    go_wp2
    refine bodyPost_ret (v:=.agg #[.int .u64 ((S.setWord (b / 64) y).a.toNat:Int),.int .u64 ((S.setWord (b / 64) y).b.toNat:Int),.int .u64 ((S.setWord (b / 64) y).c.toNat:Int),.int .u64 ((S.setWord (b / 64) y).d.toNat:Int)]) (by rw [h4];simp [results,Tryz.results175,go_sem,hc1,hz1,g0,g1,g2,g3,CSet.setWord]) rfl ⟨by rw [h4],?_⟩
    have hb2:=HB1.out
    exact (by repeat (first | exact Below.refl _ _ | assumption | refine Below.setCell ?_ (by first | omega | (simp<;>omega)) _ | refine Below.alloc ?_ (by first | omega | (simp<;>omega)) _ | refine below_drewN ?_ _ | refine Below.drew ?_))
theorem rwith_any (S:CSet) (b:Nat) (hb:b<256) (w:World):Calls Tryz.prog 175 #[.agg #[.int .u64 ((S).a.toNat:Int),.int .u64 ((S).b.toNat:Int),.int .u64 ((S).c.toNat:Int),.int .u64 ((S).d.toNat:Int)],.int .i64 b] w (RetG (.agg #[.int .u64 ((S.put b).a.toNat:Int),.int .u64 ((S.put b).b.toNat:Int),.int .u64 ((S.put b).c.toNat:Int),.int .u64 ((S.put b).d.toNat:Int)]) w):=by
 have HC:=hide (fun w=>rhas_any S b hb w)
 cases hh:S.has b with
 | true=>
   rw [hh] at HC
   rw [CSet.put_has S b hb hh]
   clear hh
   go_enter Tryz.func175,Tryz.ntmps175
   go_wp2_with fail
   refine (unhide HC _).mono ?_
   rintro e w1 ⟨rfl,hb1⟩
   (obtain ⟨hc1,hf1⟩:=bcell hb1;have hz1:w.heap.size+1<w1.heap.size:=(by have:=hb1.size;simp at this;omega);have HB1:=hid_mk (bthen (B:=w.heap.size) (a:=w) (by repeat (first | exact Below.refl _ _ | assumption | refine Below.setCell ?_ (by first | omega | (simp<;>omega)) _ | refine Below.alloc ?_ (by first | omega | (simp<;>omega)) _ | refine below_drewN ?_ _ | refine Below.drew ?_)) (by first | exact Nat.le_refl _ | omega | (simp<;>omega)) hb1);clear hb1)
   go_wp2
   refine bodyPost_ret (v:=.agg #[.int .u64 ((S).a.toNat:Int),.int .u64 ((S).b.toNat:Int),.int .u64 ((S).c.toNat:Int),.int .u64 ((S).d.toNat:Int)]) (by simp [results,Tryz.results175,go_sem,hc1,hz1]) rfl ⟨rfl,?_⟩
   have hb2:=HB1.out
   exact (by repeat (first | exact Below.refl _ _ | assumption | refine Below.setCell ?_ (by first | omega | (simp<;>omega)) _ | refine Below.alloc ?_ (by first | omega | (simp<;>omega)) _ | refine below_drewN ?_ _ | refine Below.drew ?_))
 | false=>
   rw [hh] at HC
   have h4:b / 64=0∨b / 64=1∨b / 64=2∨b / 64=3:=by omega
   unfold CSet.has at hh
   unfold CSet.put
   rcases h4 with h4 | h4 | h4 | h4
   · exact rwith_no0 S b hb w HC hh h4
   · exact rwith_no1 S b hb w HC hh h4
   · exact rwith_no2 S b hb w HC hh h4
   · exact rwith_no3 S b hb w HC hh h4
end Go.Proofs.YtpplemjjeefpdaaGreatDoor
