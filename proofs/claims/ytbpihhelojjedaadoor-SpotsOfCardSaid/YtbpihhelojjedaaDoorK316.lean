/- Texts that the proof leans on. -/
import Derived.Test.YtbpihhelojjedaaDoorK315
import Derived.Deep.QuietTactic
import Derived.BigQuiet
import Derived.BigRegion
import Derived.RegionTactic
import Derived.WalkLawsBesides
import Derived.Shelf.Spec.TrailingZeros
set_option linter.unusedVariables false
set_option linter.unusedSimpArgs false
set_option maxRecDepth 100000
set_option maxHeartbeats 4000000
namespace Go.Proofs.YtbpihhelojjedaaDoor
open Go Go.RowKit
namespace Ab
mutual
def flatV:V→Option Value
 | .t (.flat v)=>if oneV v then some v else none
 | .agg cs=>match flatL cs with
   | some l=>if cs.all V.cellB then some (.agg l.toArray) else none
   | none=>none
 | .tup cs=>match flatL cs with
   | some l=>some (.tuple l.toArray)
   | none=>none
 | _=>none
def flatL:List V→Option (List Value)
 | []=>some []
 | v::r=>match flatV v,flatL r with
   | some x,some l=>some (x::l)
   | _,_=>none
end
theorem flatL_get:∀{l:List V} {m:List Value},flatL l=some m→m.length=l.length∧∀(i:Nat) (c:V),l[i]?=some c→∃x,m[i]?=some x∧flatV c=some x
 | [],m,h=>by simp only [flatL,Option.some.injEq] at h;subst h;exact ⟨rfl,fun i c h=>by simp at h⟩
 | v ::r,m,h=>by
   simp only [flatL] at h
   split at h
   · rename_i x l hx hl
     cases h
     obtain ⟨h1,h2⟩:=flatL_get hl
     refine ⟨by simp [h1],fun i c hc=>?_⟩
     cases i with
     | zero=>simp at hc;subst hc;exact ⟨x,rfl,hx⟩
     | succ i=>exact h2 i c (by simpa using hc)
   · cases h
theorem flat_in {cx:Cx} {w:World} {v:V} {u:Value} (h:VRep cx w v u):∀{x},flatV v=some x→u=x:=by
 have many:∀{cs:List V} {vs:Array Value},vs.size=cs.length→(∀(i:Nat) (c:V) (u:Value),cs[i]?=some c→vs[i]?=some u→∀{x},flatV c=some x→u=x)→∀{l},flatL cs=some l→vs=l.toArray:=fun {cs vs} hn ih {l} hl=>by
  obtain ⟨h1,h2⟩:=flatL_get hl
  apply Array.ext
  · simp [hn,h1]
  · intro i hi1 hi2
    have hi:i<cs.length:=by omega
    obtain ⟨x,h3,h4⟩:=h2 i _ (List.getElem?_eq_getElem hi)
    have:=ih i _ _ (List.getElem?_eq_getElem hi) (Array.getElem?_eq_getElem hi1) h4
    rw [this]
    simp only [List.getElem_toArray]
    rw [List.getElem?_eq_getElem (by omega)] at h3
    exact (Option.some.inj h3).symm
 induction h with
 | t x v h=>
   intro y e
   cases h with
   | flat v h=>simp only [flatV,h,if_true,Option.some.injEq] at e;exact e
   | slc=>simp [flatV] at e
 | agg cs vs hn hcb hr ih=>
   intro y e
   simp only [flatV] at e
   split at e
   · rename_i l hl
     split at e
     · cases e;rw [many hn ih hl]
     · cases e
   · cases e
 | tup cs vs hn hr ih=>
   intro y e
   simp only [flatV] at e
   split at e
   · rename_i l hl
     cases e
     rw [many hn ih hl]
   · cases e
 | _=>intro y e;simp [flatV] at e
mutual
theorem flat_out {cx:Cx} {w:World}:∀{v:V} {x:Value},flatV v=some x→VRep cx w v x
 | .t (.flat v),x,e=>by
   simp only [flatV] at e
   split at e
   · rename_i h;cases e;exact .t _ _ (.flat _ h)
   · cases e
 | .agg cs,x,e=>by
   simp only [flatV] at e
   split at e
   · rename_i l hl
     split at e
     · rename_i hc
       cases e
       obtain ⟨h1,h2⟩:=flats_out hl
       exact .agg cs _ (by simpa using h1) (fun c hcc=>List.all_eq_true.1 hc c hcc) fun i c u q1 q2=>h2 i c u q1 (by simpa using q2)
     · cases e
   · cases e
 | .tup cs,x,e=>by
   simp only [flatV] at e
   split at e
   · rename_i l hl
     cases e
     obtain ⟨h1,h2⟩:=flats_out hl
     exact .tup cs _ (by simpa using h1) fun i c u q1 q2=>h2 i c u q1 (by simpa using q2)
   · cases e
 | .t (.slc _),x,e=>by simp [flatV] at e
 | .lst _,x,e=>by simp [flatV] at e
 | .ptr _ _,x,e=>by simp [flatV] at e
 | .elt _ _ _,x,e=>by simp [flatV] at e
 | .ipt _ _,x,e=>by simp [flatV] at e
 | .fn _ _,x,e=>by simp [flatV] at e
 | .ifc _ _,x,e=>by simp [flatV] at e
 | .junk,x,e=>by simp [flatV] at e
theorem flats_out {cx:Cx} {w:World}:∀{cs:List V} {l:List Value},flatL cs=some l→l.length=cs.length∧∀(i:Nat) (c:V) (u:Value),cs[i]?=some c→l[i]?=some u→VRep cx w c u
 | [],l,e=>by simp only [flatL,Option.some.injEq] at e;subst e;exact ⟨rfl,fun i c u h=>by simp at h⟩
 | v ::r,l,e=>by
   simp only [flatL] at e
   split at e
   · rename_i x m hx hm
     cases e
     obtain ⟨h1,h2⟩:=flats_out (cx:=cx) (w:=w) hm
     refine ⟨by simp [h1],fun i c u q1 q2=>?_⟩
     cases i with
     | zero=>simp at q1 q2;subst q1;subst q2;exact flat_out hx
     | succ i=>exact h2 i c u (by simpa using q1) (by simpa using q2)
   · cases e
end
theorem fun_elder {P:Program} {f:FuncId} {args:List V} {v:V} {vals:List Value} {u:Value} (hcall:Callable P f) (ha:flatL args=some vals) (hv:flatV v=some u)
 (h:∀(G:Nat→Prop) (w:World),Tab G w→(∀b,G b→b<w.heap.size)→Calls P f vals.toArray w fun e w'=>e=.returned u∧Below w.heap.size w w'):Fun P f args v:=
 ⟨hcall,fun G w cargs hG hT hargs=>by
  have:cargs=vals.toArray:=by
   have:=flat_in (.tup args cargs hargs.1 hargs.2) (x:=.tuple vals.toArray) (by simp only [flatV,ha])
   injection this
  subst this
  exact (h G w hT hG).mono fun e w' ⟨h1,h2⟩=>⟨u,h1,h2,flat_out hv⟩⟩
end Ab
end Go.Proofs.YtbpihhelojjedaaDoor
namespace Go.Proofs.YtbpihhelojjedaaDoor
open Go Go.RowKit
theorem bit_eq (x:BitVec 64) (k:Nat):(bits BinOp.and IntKind.u64 ((x.toNat:Int) / 2 ^ k) 1==1)=x.getLsbD k:=by
 have e1:((x.toNat:Int) / 2 ^ k)=((x.toNat / 2 ^ k:Nat):Int):=by simp
 have hlt:x.toNat / 2 ^ k<18446744073709551616:=Nat.lt_of_le_of_lt (Nat.div_le_self _ _) x.isLt
 have h2:=u64_and_nat (x.toNat / 2 ^ k) 1 hlt (by decide)
 rw [e1]
 rw [show ((1:Nat):Int)=1 from rfl] at h2
 rw [h2,nat_mask1,BitVec.getLsbD,Nat.testBit_eq_decide_div_mod_eq,Bool.eq_iff_iff]
 simp
 omega
theorem has_any (S:CSet) (b:Nat) (hb:b<256) (w:World):Calls Tryd.prog 24 #[.agg #[.int .u64 ((S).a.toNat:Int),.int .u64 ((S).b.toNat:Int),.int .u64 ((S).c.toNat:Int),.int .u64 ((S).d.toNat:Int)],.int .u8 b] w (RetG (.bool (S.has b)) w):=by
 have h4:b / 64=0∨b / 64=1∨b / 64=2∨b / 64=3:=by omega
 unfold CSet.has
 rcases h4 with h4 | h4 | h4 | h4
 all_goals
  have e1:((b:Int) / 64)=((b / 64:Nat):Int):=by omega
  rw [h4] at e1 ⊢
  go_enter Tryd.func24,Tryd.ntmps24
  go_wp2
  go_ret
  refine ⟨?_,(Below.refl _ _).alloc (Nat.le_refl _) _⟩
  rw [←bit_eq]
  rfl
theorem two_pow_toNat (m:Nat) (hm:m<64):(1#64<<<m).toNat=2 ^ m:=by
 rw [BitVec.toNat_shiftLeft]
 simp
 rw [Nat.shiftLeft_eq,Nat.one_mul]
 exact Nat.mod_eq_of_lt (Nat.pow_lt_pow_right (by decide) hm)
theorem wrap_pow (m:Nat) (hm:m<64):IntKind.u64.wrap (2 ^ m)=((2 ^ m:Nat):Int):=by
 rw [IntKind.wrap_u64]
 have h:(2 ^ m:Nat)<18446744073709551616:=Nat.lt_of_lt_of_le (Nat.pow_lt_pow_right (by decide) hm) (by decide)
 have e:((2:Int) ^ m)=((2 ^ m:Nat):Int):=by simp
 rw [e]
 exact Int.emod_eq_of_lt (Int.natCast_nonneg _) (Int.ofNat_lt.2 h)
theorem or_bit (x:BitVec 64) (m:Nat) (hm:m<64):bits BinOp.or IntKind.u64 (x.toNat:Int) (IntKind.u64.wrap (2 ^ m))=((x||| (1#64<<<m)).toNat:Int):=by
 have h:(2 ^ m:Nat)<18446744073709551616:=Nat.lt_of_lt_of_le (Nat.pow_lt_pow_right (by decide) hm) (by decide)
 rw [wrap_pow m hm,u64_or_nat _ _ x.isLt h,BitVec.toNat_or,two_pow_toNat m hm]
theorem cells_put (S:CSet) (b i:Nat) (h:b / 64=i) (hb:b<256):
 (#[.int .u64 ((S).a.toNat:Int),.int .u64 ((S).b.toNat:Int),.int .u64 ((S).c.toNat:Int),.int .u64 ((S).d.toNat:Int)]:Array Value).setIfInBounds i (.int .u64 (bits BinOp.or IntKind.u64 ((S.word i).toNat:Int) (IntKind.u64.wrap (2 ^ (b % 64)))))=#[.int .u64 ((S.put b).a.toNat:Int),.int .u64 ((S.put b).b.toNat:Int),.int .u64 ((S.put b).c.toNat:Int),.int .u64 ((S.put b).d.toNat:Int)]:=by
 rw [or_bit _ _ (by omega)]
 unfold CSet.put
 rw [h]
 have h1:i=0∨i=1∨i=2∨i=3:=by omega
 rcases h1 with rfl | rfl | rfl | rfl<;>rfl
theorem of_any (lo hi:Nat) (hlo:lo<256) (hhi:hi<256) (w:World):Calls Tryd.prog 86 #[.int .u8 lo,.int .u8 hi] w (RetG (.agg #[.int .u64 ((CSet.between lo hi).a.toNat:Int),.int .u64 ((CSet.between lo hi).b.toNat:Int),.int .u64 ((CSet.between lo hi).c.toNat:Int),.int .u64 ((CSet.between lo hi).d.toNat:Int)]) w):=by
 go_enter Tryd.func86,Tryd.ntmps86
 go_wp2
 go_loopw [6] (fun v wr=>∃k n:Nat,(k=0∨lo+k≤hi+1)∧v=.int .i64 (lo+k:Nat)∧wr=((w.alloc (.cells #[.int .u64 0,.int .u64 0,.int .u64 0,.int .u64 0] 32)).alloc (.cells #[.int .u64 ((CSet.span lo k).a.toNat:Int),.int .u64 ((CSet.span lo k).b.toNat:Int),.int .u64 ((CSet.span lo k).c.toNat:Int),.int .u64 ((CSet.span lo k).d.toNat:Int)] 32)).drewN n) (fun v _=>hi+1-(intOf v).toNat)
 case atStart=>exact ⟨0,0,.inl rfl,rfl,rfl⟩
 case round=>
  obtain ⟨k,n,hk,rfl,rfl⟩:=hrel
  by_cases hlt:lo+k≤hi
  · have h4:(lo+k) / 64=0∨(lo+k) / 64=1∨(lo+k) / 64=2∨(lo+k) / 64=3:=by omega
    rcases h4 with h4 | h4 | h4 | h4
    all_goals
     have e1:(((lo+k:Nat):Int) / 64)=(((lo+k) / 64:Nat):Int):=by omega
     have hp:=cells_put (CSet.span lo k) (lo+k) _ h4 (by omega)
     have HP:=hid_mk hp
     rw [h4] at e1
     clear hk hp
     go_wp2
     go_region
     go_wp2
     go_roundw
     case rel=>exact ⟨k+1,n+1,by omega,by go_num,by
      exact congrArg (fun c=>((w.alloc (.cells #[.int .u64 0,.int .u64 0,.int .u64 0,.int .u64 0] 32)).alloc (.cells c 32)).drewN (n+1)) HP.out⟩
     case measure=>simp [intOf];omega
  · have hn:CSet.span lo k=CSet.between lo hi:=by
     unfold CSet.between
     rcases hk with rfl | hk
     · rw [show hi+1-lo=0 by omega]
     · rw [show hi+1-lo=k by omega]
    rw [hn]
    clear hn hk
    go_wp2
    refine bodyPost_ret (v:=.agg #[.int .u64 ((CSet.between lo hi).a.toNat:Int),.int .u64 ((CSet.between lo hi).b.toNat:Int),.int .u64 ((CSet.between lo hi).c.toNat:Int),.int .u64 ((CSet.between lo hi).d.toNat:Int)]) (by simp [results,Tryd.results86,go_sem]) rfl ⟨rfl,(by repeat (first | exact Below.refl _ _ | assumption | refine Below.setCell ?_ (by first | omega | (simp<;>omega)) _ | refine Below.alloc ?_ (by first | omega | (simp<;>omega)) _ | refine below_drewN ?_ _ | refine Below.drew ?_))⟩
theorem or_word (x y:BitVec 64):bits BinOp.or IntKind.u64 (x.toNat:Int) (y.toNat:Int)=((x||| y).toNat:Int):=by
 rw [u64_or_nat _ _ x.isLt y.isLt,BitVec.toNat_or]
theorem or_any (S T:CSet) (w:World):Calls Tryd.prog 96 #[.agg #[.int .u64 ((S).a.toNat:Int),.int .u64 ((S).b.toNat:Int),.int .u64 ((S).c.toNat:Int),.int .u64 ((S).d.toNat:Int)],.agg #[.int .u64 ((T).a.toNat:Int),.int .u64 ((T).b.toNat:Int),.int .u64 ((T).c.toNat:Int),.int .u64 ((T).d.toNat:Int)]] w (RetG (.agg #[.int .u64 ((S.or T).a.toNat:Int),.int .u64 ((S.or T).b.toNat:Int),.int .u64 ((S.or T).c.toNat:Int),.int .u64 ((S.or T).d.toNat:Int)]) w):=by
 go_enter Tryd.func96,Tryd.ntmps96
 go_wp2
 go_loopw [5,6] (fun _ v wr=>∃k n:Nat,k≤4∧v=.int .i64 (k:Nat)∧wr=(((w.alloc (.cells #[.int .u64 ((S.mix (S.or T) k).a.toNat:Int),.int .u64 ((S.mix (S.or T) k).b.toNat:Int),.int .u64 ((S.mix (S.or T) k).c.toNat:Int),.int .u64 ((S.mix (S.or T) k).d.toNat:Int)] 32)).alloc (.cells #[.int .u64 ((T).a.toNat:Int),.int .u64 ((T).b.toNat:Int),.int .u64 ((T).c.toNat:Int),.int .u64 ((T).d.toNat:Int)] 32)).alloc (.cells #[.int .u64 0,.int .u64 0,.int .u64 0,.int .u64 0] 32)).drewN n) (fun _ v _=>4-(intOf v).toNat)
 case atStart=>exact ⟨0,0,by omega,rfl,rfl⟩
 case round=>
  obtain ⟨k,n,hk,rfl,rfl⟩:=hrel
  have h5:k=0∨k=1∨k=2∨k=3∨k=4:=by omega
  have e0:S.mix (S.or T) 0=⟨S.a,S.b,S.c,S.d⟩:=rfl
  have e1:S.mix (S.or T) 1=⟨S.a||| T.a,S.b,S.c,S.d⟩:=rfl
  have e2:S.mix (S.or T) 2=⟨S.a||| T.a,S.b||| T.b,S.c,S.d⟩:=rfl
  have e3:S.mix (S.or T) 3=⟨S.a||| T.a,S.b||| T.b,S.c||| T.c,S.d⟩:=rfl
  have e4:S.mix (S.or T) 4=S.or T:=rfl
  rcases h5 with rfl | rfl | rfl | rfl | rfl
  · rw [e0];clear e0 e1 e2 e3 e4
    go_wp2
    go_region
    go_wp2
    go_roundw
    case rel=>exact ⟨1,n+1,by omega,rfl,by rw [or_word];rfl⟩
    case measure=>simp [intOf]
  · rw [e1];clear e0 e1 e2 e3 e4
    go_wp2
    go_region
    go_wp2
    go_roundw
    case rel=>exact ⟨2,n+1,by omega,rfl,by rw [or_word];rfl⟩
    case measure=>simp [intOf]
  · rw [e2];clear e0 e1 e2 e3 e4
    go_wp2
    go_region
    go_wp2
    go_roundw
    case rel=>exact ⟨3,n+1,by omega,rfl,by rw [or_word];rfl⟩
    case measure=>simp [intOf]
  · rw [e3];clear e0 e1 e2 e3 e4
    go_wp2
    go_region
    go_wp2
    go_roundw
    case rel=>exact ⟨4,n+1,by omega,rfl,by rw [or_word];rfl⟩
    case measure=>simp [intOf]
  · rw [e4];clear e0 e1 e2 e3 e4
    go_wp2
    refine bodyPost_ret (v:=.agg #[.int .u64 ((S.or T).a.toNat:Int),.int .u64 ((S.or T).b.toNat:Int),.int .u64 ((S.or T).c.toNat:Int),.int .u64 ((S.or T).d.toNat:Int)]) (by simp [results,Tryd.results96,go_sem]) rfl ⟨rfl,(by repeat (first | exact Below.refl _ _ | assumption | refine Below.setCell ?_ (by first | omega | (simp<;>omega)) _ | refine Below.alloc ?_ (by first | omega | (simp<;>omega)) _ | refine below_drewN ?_ _ | refine Below.drew ?_))⟩
end Go.Proofs.YtbpihhelojjedaaDoor
namespace Go.Proofs.YtbpihhelojjedaaDoor
open Go Go.RowKit
theorem not_word (x:BitVec 64):bits BinOp.xor IntKind.u64 (if IntKind.u64.signed=true then-1 else IntKind.u64.max) (x.toNat:Int)=((~~~x).toNat:Int):=by
 have e:(if IntKind.u64.signed=true then-1 else IntKind.u64.max)=((18446744073709551615:Nat):Int):=by decide
 rw [e,u64_xor_nat _ _ (by decide) x.isLt]
 congr 1
theorem not_any (S:CSet) (w:World):Calls Tryd.prog 98 #[.agg #[.int .u64 ((S).a.toNat:Int),.int .u64 ((S).b.toNat:Int),.int .u64 ((S).c.toNat:Int),.int .u64 ((S).d.toNat:Int)]] w (RetG (.agg #[.int .u64 ((S.not).a.toNat:Int),.int .u64 ((S.not).b.toNat:Int),.int .u64 ((S.not).c.toNat:Int),.int .u64 ((S.not).d.toNat:Int)]) w):=by
 obtain ⟨R,hR⟩:∃R,R=S.not:=⟨_,rfl⟩
 rw [←hR]
 have HR:=hid_mk hR
 clear hR
 go_enter Tryd.func98,Tryd.ntmps98
 go_wp2
 go_loopw [3,4] (fun _ v wr=>∃k n:Nat,k≤4∧v=.int .i64 (k:Nat)∧wr=((w.alloc (.cells #[.int .u64 ((S.mix R k).a.toNat:Int),.int .u64 ((S.mix R k).b.toNat:Int),.int .u64 ((S.mix R k).c.toNat:Int),.int .u64 ((S.mix R k).d.toNat:Int)] 32)).alloc (.cells #[.int .u64 0,.int .u64 0,.int .u64 0,.int .u64 0] 32)).drewN n) (fun _ v _=>4-(intOf v).toNat)
 case atStart=>exact ⟨0,0,by omega,rfl,rfl⟩
 case round=>
  obtain ⟨k,n,hk,rfl,rfl⟩:=hrel
  have h5:k=0∨k=1∨k=2∨k=3∨k=4:=by omega
  have e0:S.mix R 0=⟨S.a,S.b,S.c,S.d⟩:=rfl
  have e1:S.mix R 1=⟨R.a,S.b,S.c,S.d⟩:=rfl
  have e2:S.mix R 2=⟨R.a,R.b,S.c,S.d⟩:=rfl
  have e3:S.mix R 3=⟨R.a,R.b,R.c,S.d⟩:=rfl
  have e4:S.mix R 4=R:=rfl
  rcases h5 with rfl | rfl | rfl | rfl | rfl
  · rw [e0];clear e0 e1 e2 e3 e4
    go_wp2
    go_roundw
    case rel=>exact ⟨1,n,by omega,rfl,by rw [not_word,show ~~~S.a=R.a by rw [HR.out];rfl];rfl⟩
    case measure=>simp [intOf]
  · rw [e1];clear e0 e1 e2 e3 e4
    go_wp2
    go_roundw
    case rel=>exact ⟨2,n,by omega,rfl,by rw [not_word,show ~~~S.b=R.b by rw [HR.out];rfl];rfl⟩
    case measure=>simp [intOf]
  · rw [e2];clear e0 e1 e2 e3 e4
    go_wp2
    go_roundw
    case rel=>exact ⟨3,n,by omega,rfl,by rw [not_word,show ~~~S.c=R.c by rw [HR.out];rfl];rfl⟩
    case measure=>simp [intOf]
  · rw [e3];clear e0 e1 e2 e3 e4
    go_wp2
    go_roundw
    case rel=>exact ⟨4,n,by omega,rfl,by rw [not_word,show ~~~S.d=R.d by rw [HR.out];rfl];rfl⟩
    case measure=>simp [intOf]
  · rw [e4];clear e0 e1 e2 e3 e4
    go_wp2
    refine bodyPost_ret (v:=.agg #[.int .u64 ((R).a.toNat:Int),.int .u64 ((R).b.toNat:Int),.int .u64 ((R).c.toNat:Int),.int .u64 ((R).d.toNat:Int)]) (by simp [results,Tryd.results98,go_sem]) rfl ⟨rfl,(by repeat (first | exact Below.refl _ _ | assumption | refine Below.setCell ?_ (by first | omega | (simp<;>omega)) _ | refine Below.alloc ?_ (by first | omega | (simp<;>omega)) _ | refine below_drewN ?_ _ | refine Below.drew ?_))⟩
theorem bit2_eq (x:BitVec 64) (k:Nat):(((x.toNat / 2 ^ k:Nat):Int) % 2==1)=x.getLsbD k:=by
 rw [BitVec.getLsbD,Nat.testBit_eq_decide_div_mod_eq]
 generalize x.toNat / 2 ^ k=y
 rw [Bool.eq_iff_iff]
 simp
 omega
theorem rhas_any (S:CSet) (b:Nat) (hb:b<256) (w:World):Calls Tryd.prog 27 #[.agg #[.int .u64 ((S).a.toNat:Int),.int .u64 ((S).b.toNat:Int),.int .u64 ((S).c.toNat:Int),.int .u64 ((S).d.toNat:Int)],.int .i64 b] w (RetG (.bool (S.has b)) w):=by
 have h4:b / 64=0∨b / 64=1∨b / 64=2∨b / 64=3:=by omega
 unfold CSet.has
 rcases h4 with h4 | h4 | h4 | h4
 all_goals
  have e1:((b:Int) / 64)=((b / 64:Nat):Int):=by omega
  rw [h4] at e1 ⊢
  obtain ⟨x,hx⟩:∃x,x=S.word (b / 64):=⟨_,rfl⟩
  rw [h4] at hx
  rw [←hx]
  have HX:=hid_mk hx
  go_enter Tryd.func27,Tryd.ntmps27
  go_wp2
  go_loop [5,6] (fun y v=>∃k:Nat,k≤b % 64∧v=.int .i64 k∧y=.int .u64 ((x.toNat / 2 ^ k:Nat):Int)) (fun _ v=>b % 64-(intOf v).toNat)
  case atStart=>exact ⟨0,by omega,rfl,by rw [HX.out];simp [CSet.word]⟩
  case round=>
   obtain ⟨k,hk,rfl,rfl⟩:=hrel
   have hxl:=x.isLt
   have hy:x.toNat / 2 ^ k≤18446744073709551615:=Nat.le_trans (Nat.div_le_self _ _) (by omega)
   have hs:x.toNat / 2 ^ (k+1)=x.toNat / 2 ^ k / 2:=by rw [Nat.pow_succ,Nat.div_div_eq_div_mul]
   by_cases hlt:k<b % 64
   · have HS:=hid_mk hs
     generalize x.toNat / 2 ^ k=y at *
     clear hx hs hxl
     go_wp2
     go_round
     case rel=>exact ⟨k+1,by omega,by go_num,by rw [HS.out];go_num⟩
     case measure=>simp [intOf];omega
   · have hk2:b % 64=k:=by omega
     have hb2:=bit2_eq x k
     have HB:=hid_mk hb2
     have HK:=hid_mk hk2
     clear hb2
     generalize x.toNat / 2 ^ k=y at *
     clear hx hs hxl hk2
     go_wp2
     go_ret
     exact ⟨by rw [HK.out,←HB.out];rfl,(by repeat (first | exact Below.refl _ _ | assumption | refine Below.setCell ?_ (by first | omega | (simp<;>omega)) _ | refine Below.alloc ?_ (by first | omega | (simp<;>omega)) _ | refine below_drewN ?_ _ | refine Below.drew ?_))⟩
end Go.Proofs.YtbpihhelojjedaaDoor
namespace Go.Proofs.YtbpihhelojjedaaDoor
open Go Go.RowKit
def TabW (w:World):Prop:=TabAt 0 Lib.deBruijn64tab w∧0<w.heap.size
theorem TabW.below {w w':World} (h:TabW w) (hb:Below w.heap.size w w'):TabW w':=⟨fun j hj=>(hb.cell (p:=⟨0,j,none⟩) h.2).trans (h.1 j hj),Nat.lt_of_lt_of_le h.2 hb.size⟩
theorem tz_core (x k idx:Nat) (w:World) (hx0:((x:Int)==0)=false)
 (key:IntKind.u64.wrap (bits BinOp.and IntKind.u64 (x:Int) (IntKind.u64.wrap (-(x:Int)))*285870213051353865) / 288230376151711744=(idx:Int))
 (hi:idx<64) (hk:k<64) (hcell:w.cell? ⟨0,idx,none⟩=some (.int .u8 k)):Calls Tryd.prog 105 #[.int .u64 x] w (Ret (.int .i64 k) w):=by
 go_enter Tryd.func105,Tryd.ntmps105
 go_wp2_with (simp only [key])
 go_ret
 exact ⟨rfl,rfl⟩
theorem tz_any (x:BitVec 64) (w:World) (hT:TabW w) (hx0:x.toNat≠0):Calls Tryd.prog 105 #[.int .u64 (x.toNat:Int)] w (Ret (.int .i64 (Lib.ctz 64 x.toNat)) w):=by
 obtain ⟨hlow,hk⟩:=Lib.lowest_bit 64 x.toNat hx0 x.isLt
 obtain ⟨hi,htab⟩:=Lib.deBruijn64_at _ hk
 have hcell:=hT.1 _ hi
 rw [htab] at hcell
 exact tz_core x.toNat _ _ w (by simp;omega) (tz64_key x.toNat _ x.isLt hx0 hlow) hi hk hcell
theorem retg_int {k:IntKind} {a b:Int} {w w':World} (h:a=b) (hb:Below w.heap.size w w'):RetG (.int k b) w (.returned (.int k a)) w':=⟨by rw [h],hb⟩
theorem ctz_bits (x:BitVec 64) (h:x.toNat≠0):Lib.ctz 64 x.toNat<64∧x.getLsbD (Lib.ctz 64 x.toNat)=true∧∀j,j<Lib.ctz 64 x.toNat→x.getLsbD j=false:=by
 obtain ⟨m,hm,hk⟩:=Lib.ctzFrom_spec 64 x.toNat (by omega) x.isLt
 have e:Lib.ctz 64 x.toNat=Lib.ctzFrom 64 x.toNat:=by unfold Lib.ctz;rw [if_neg h]
 rw [e]
 generalize Lib.ctzFrom 64 x.toNat=c at *
 refine ⟨hk,?_,fun j hj=>?_⟩
 · rw [BitVec.getLsbD,hm,Nat.mul_comm,Nat.testBit_mul_two_pow]
   simp [Nat.testBit_zero]
 · rw [BitVec.getLsbD,hm,Nat.mul_comm,Nat.testBit_mul_two_pow]
   simp;omega
theorem first_word (S:CSet) (k:Nat) (hk:k<4) (hp:∀i,i<k→(S.word i).toNat=0) (h:(S.word k).toNat≠0):S.first=64*(k:Int)+(Lib.ctz 64 (S.word k).toNat:Nat):=by
 obtain ⟨h1,h2,h3⟩:=ctz_bits (S.word k) h
 have:=CSet.first_at S 256 0 (64*k+Lib.ctz 64 (S.word k).toNat) (by omega) (by omega) (by
  unfold CSet.has
  rw [show (64*k+Lib.ctz 64 (S.word k).toNat) / 64=k by omega,show (64*k+Lib.ctz 64 (S.word k).toNat) % 64=Lib.ctz 64 (S.word k).toNat by omega]
  exact h2) (fun j _ hj=>by
  unfold CSet.has
  by_cases e:j / 64=k
  · rw [e]
    exact h3 _ (by omega)
  · have h0:=hp (j / 64) (by omega)
    rw [BitVec.getLsbD,h0]
    simp)
 unfold CSet.first
 rw [this]
 omega
theorem first_zero (S:CSet) (hp:∀i,i<4→(S.word i).toNat=0):S.first=-1:=CSet.first_none S 256 0 (fun j _ hj=>by
 unfold CSet.has
 rw [BitVec.getLsbD,hp (j / 64) (by omega)]
 simp)
theorem first_any (S:CSet) (w:World) (hT:TabW w):Calls Tryd.prog 104 #[.agg #[.int .u64 ((S).a.toNat:Int),.int .u64 ((S).b.toNat:Int),.int .u64 ((S).c.toNat:Int),.int .u64 ((S).d.toNat:Int)]] w (RetG (.int .i64 S.first) w):=by
 have i0:∀w,(Instr.index 32 (.agg #[.int .u64 ((S).a.toNat:Int),.int .u64 ((S).b.toNat:Int),.int .u64 ((S).c.toNat:Int),.int .u64 ((S).d.toNat:Int)]) (.int .i64 0)).run Tryd.prog w=.ok (.int .u64 (S.a.toNat:Int)) w:=fun _=>by kernel_rfl
 have i1:∀w,(Instr.index 32 (.agg #[.int .u64 ((S).a.toNat:Int),.int .u64 ((S).b.toNat:Int),.int .u64 ((S).c.toNat:Int),.int .u64 ((S).d.toNat:Int)]) (.int .i64 1)).run Tryd.prog w=.ok (.int .u64 (S.b.toNat:Int)) w:=fun _=>by kernel_rfl
 have i2:∀w,(Instr.index 32 (.agg #[.int .u64 ((S).a.toNat:Int),.int .u64 ((S).b.toNat:Int),.int .u64 ((S).c.toNat:Int),.int .u64 ((S).d.toNat:Int)]) (.int .i64 2)).run Tryd.prog w=.ok (.int .u64 (S.c.toNat:Int)) w:=fun _=>by kernel_rfl
 have i3:∀w,(Instr.index 32 (.agg #[.int .u64 ((S).a.toNat:Int),.int .u64 ((S).b.toNat:Int),.int .u64 ((S).c.toNat:Int),.int .u64 ((S).d.toNat:Int)]) (.int .i64 3)).run Tryd.prog w=.ok (.int .u64 (S.d.toNat:Int)) w:=fun _=>by kernel_rfl
 have HT:=hid_mk hT
 clear hT
 go_enter Tryd.func104,Tryd.ntmps104
 go_wp2
 go_loop [3,4,6] (fun _ _ v=>∃k:Nat,k≤4∧v=.int .i64 (k:Nat)∧(∀i,i<k→(S.word i).toNat=0)) (fun _ _ v=>4-(intOf v).toNat)
 case atStart=>exact ⟨0,by omega,rfl,fun i hi=>absurd hi (by omega)⟩
 case round=>
  obtain ⟨k,hk,rfl,hp⟩:=hrel
  have h5:k=0∨k=1∨k=2∨k=3∨k=4:=by omega
  have HP:=hid_mk hp
  clear hp
  rcases h5 with rfl | rfl | rfl | rfl | rfl
  · by_cases hz:S.a.toNat=0
    · have hz1:((S.a.toNat:Int) != 0)=false:=by simp [hz]
      have HZ:=hid_mk hz
      clear hz
      go_wp2
      go_round
      case rel=>exact ⟨1,by omega,rfl,fun i hi=>by
       by_cases e:i=0
       · subst e;exact HZ.out
       · exact HP.out i (by omega)⟩
      case measure=>simp [intOf]
    · have hz1:((S.a.toNat:Int) != 0)=true:=by simp [hz]
      have hf:=first_word S 0 (by omega) HP.out hz
      have hl:=(ctz_bits S.a hz).1
      have HC:=hide (tz_any S.a (w.alloc (.cells #[.int .u64 ((S).a.toNat:Int),.int .u64 ((S).b.toNat:Int),.int .u64 ((S).c.toNat:Int),.int .u64 ((S).d.toNat:Int)] 32)) (HT.out.below (by repeat (first | exact Below.refl _ _ | assumption | refine Below.setCell ?_ (by first | omega | (simp<;>omega)) _ | refine Below.alloc ?_ (by first | omega | (simp<;>omega)) _ | refine below_drewN ?_ _ | refine Below.drew ?_))) hz)
      have HF:=hid_mk hf
      simp only [CSet.word] at HF
      generalize Lib.ctz 64 S.a.toNat=c at *
      clear hz hf
      go_wp2_with (go_at_call 105;refine (unhide HC).mono ?_;rintro e w' ⟨rfl,rfl⟩)
      go_ret
      exact retg_int (by have:=HF.out;omega) (by repeat (first | exact Below.refl _ _ | assumption | refine Below.setCell ?_ (by first | omega | (simp<;>omega)) _ | refine Below.alloc ?_ (by first | omega | (simp<;>omega)) _ | refine below_drewN ?_ _ | refine Below.drew ?_))
  · by_cases hz:S.b.toNat=0
    · have hz1:((S.b.toNat:Int) != 0)=false:=by simp [hz]
      have HZ:=hid_mk hz
      clear hz
      go_wp2
      go_round
      case rel=>exact ⟨2,by omega,rfl,fun i hi=>by
       by_cases e:i=1
       · subst e;exact HZ.out
       · exact HP.out i (by omega)⟩
      case measure=>simp [intOf]
    · have hz1:((S.b.toNat:Int) != 0)=true:=by simp [hz]
      have hf:=first_word S 1 (by omega) HP.out hz
      have hl:=(ctz_bits S.b hz).1
      have HC:=hide (tz_any S.b (w.alloc (.cells #[.int .u64 ((S).a.toNat:Int),.int .u64 ((S).b.toNat:Int),.int .u64 ((S).c.toNat:Int),.int .u64 ((S).d.toNat:Int)] 32)) (HT.out.below (by repeat (first | exact Below.refl _ _ | assumption | refine Below.setCell ?_ (by first | omega | (simp<;>omega)) _ | refine Below.alloc ?_ (by first | omega | (simp<;>omega)) _ | refine below_drewN ?_ _ | refine Below.drew ?_))) hz)
      have HF:=hid_mk hf
      simp only [CSet.word] at HF
      generalize Lib.ctz 64 S.b.toNat=c at *
      clear hz hf
      go_wp2_with (go_at_call 105;refine (unhide HC).mono ?_;rintro e w' ⟨rfl,rfl⟩)
      go_ret
      exact retg_int (by have:=HF.out;omega) (by repeat (first | exact Below.refl _ _ | assumption | refine Below.setCell ?_ (by first | omega | (simp<;>omega)) _ | refine Below.alloc ?_ (by first | omega | (simp<;>omega)) _ | refine below_drewN ?_ _ | refine Below.drew ?_))
  · by_cases hz:S.c.toNat=0
    · have hz1:((S.c.toNat:Int) != 0)=false:=by simp [hz]
      have HZ:=hid_mk hz
      clear hz
      go_wp2
      go_round
      case rel=>exact ⟨3,by omega,rfl,fun i hi=>by
       by_cases e:i=2
       · subst e;exact HZ.out
       · exact HP.out i (by omega)⟩
      case measure=>simp [intOf]
    · have hz1:((S.c.toNat:Int) != 0)=true:=by simp [hz]
      have hf:=first_word S 2 (by omega) HP.out hz
      have hl:=(ctz_bits S.c hz).1
      have HC:=hide (tz_any S.c (w.alloc (.cells #[.int .u64 ((S).a.toNat:Int),.int .u64 ((S).b.toNat:Int),.int .u64 ((S).c.toNat:Int),.int .u64 ((S).d.toNat:Int)] 32)) (HT.out.below (by repeat (first | exact Below.refl _ _ | assumption | refine Below.setCell ?_ (by first | omega | (simp<;>omega)) _ | refine Below.alloc ?_ (by first | omega | (simp<;>omega)) _ | refine below_drewN ?_ _ | refine Below.drew ?_))) hz)
      have HF:=hid_mk hf
      simp only [CSet.word] at HF
      generalize Lib.ctz 64 S.c.toNat=c at *
      clear hz hf
      go_wp2_with (go_at_call 105;refine (unhide HC).mono ?_;rintro e w' ⟨rfl,rfl⟩)
      go_ret
      exact retg_int (by have:=HF.out;omega) (by repeat (first | exact Below.refl _ _ | assumption | refine Below.setCell ?_ (by first | omega | (simp<;>omega)) _ | refine Below.alloc ?_ (by first | omega | (simp<;>omega)) _ | refine below_drewN ?_ _ | refine Below.drew ?_))
  · by_cases hz:S.d.toNat=0
    · have hz1:((S.d.toNat:Int) != 0)=false:=by simp [hz]
      have HZ:=hid_mk hz
      clear hz
      go_wp2
      go_round
      case rel=>exact ⟨4,by omega,rfl,fun i hi=>by
       by_cases e:i=3
       · subst e;exact HZ.out
       · exact HP.out i (by omega)⟩
      case measure=>simp [intOf]
    · have hz1:((S.d.toNat:Int) != 0)=true:=by simp [hz]
      have hf:=first_word S 3 (by omega) HP.out hz
      have hl:=(ctz_bits S.d hz).1
      have HC:=hide (tz_any S.d (w.alloc (.cells #[.int .u64 ((S).a.toNat:Int),.int .u64 ((S).b.toNat:Int),.int .u64 ((S).c.toNat:Int),.int .u64 ((S).d.toNat:Int)] 32)) (HT.out.below (by repeat (first | exact Below.refl _ _ | assumption | refine Below.setCell ?_ (by first | omega | (simp<;>omega)) _ | refine Below.alloc ?_ (by first | omega | (simp<;>omega)) _ | refine below_drewN ?_ _ | refine Below.drew ?_))) hz)
      have HF:=hid_mk hf
      simp only [CSet.word] at HF
      generalize Lib.ctz 64 S.d.toNat=c at *
      clear hz hf
      go_wp2_with (go_at_call 105;refine (unhide HC).mono ?_;rintro e w' ⟨rfl,rfl⟩)
      go_ret
      exact retg_int (by have:=HF.out;omega) (by repeat (first | exact Below.refl _ _ | assumption | refine Below.setCell ?_ (by first | omega | (simp<;>omega)) _ | refine Below.alloc ?_ (by first | omega | (simp<;>omega)) _ | refine below_drewN ?_ _ | refine Below.drew ?_))
  · have hf:=first_zero S HP.out
    have HF:=hid_mk hf
    clear hf
    go_wp2
    go_ret
    exact ⟨by rw [HF.out];rfl,(by repeat (first | exact Below.refl _ _ | assumption | refine Below.setCell ?_ (by first | omega | (simp<;>omega)) _ | refine Below.alloc ?_ (by first | omega | (simp<;>omega)) _ | refine below_drewN ?_ _ | refine Below.drew ?_))⟩
end Go.Proofs.YtbpihhelojjedaaDoor
namespace Go.Proofs.YtbpihhelojjedaaDoor
open Go Go.RowKit Ab
def setV (S:CSet):V:=.agg [fI .u64 S.a.toNat,fI .u64 S.b.toNat,fI .u64 S.c.toNat,fI .u64 S.d.toNat]
theorem tab_bits {G:Nat→Prop} {w:World} (h:Tab G w) (hG:∀b,G b→b<w.heap.size):TabW w:=by
 obtain ⟨h1,h2⟩:=h.1 (0,Lib.deBruijn64tab.map fun n=>.int .u8 (Int.ofNat n)) (by simp [tabs])
 refine ⟨fun j hj=>?_,hG _ h1⟩
 rw [h2 j (.int .u8 (Int.ofNat (Lib.deBruijn64tab.getD j 0))) (by
  simp only [List.getElem?_map,List.getD_eq_getElem?_getD]
  have:j<Lib.deBruijn64tab.length:=by simpa using hj
  rw [List.getElem?_eq_getElem this]
  rfl)]
 rfl
section
variable (S T:CSet) {x y:Int} {lo hi b:Nat}
theorem f_of (hx:x=lo) (hy:y=hi) (h1:lo<256) (h2:hi<256):FunS Tryd.prog 86 [fI .u8 x,fI .u8 y] setV (CSet.between lo hi):=by
 subst hx hy
 exact fun_elder (Tryd.call86) rfl rfl fun G w _ _=>of_any lo hi h1 h2 w
theorem f_or:FunS Tryd.prog 96 [setV S,setV T] setV (S.or T):=fun_elder (Tryd.call96) rfl rfl fun G w _ _=>or_any S T w
theorem f_not:FunS Tryd.prog 98 [setV S] setV S.not:=fun_elder (Tryd.call98) rfl rfl fun G w _ _=>not_any S w
theorem f_has (hx:x=b) (h:b<256):FunS Tryd.prog 24 [setV S,fI .u8 x] shB (S.has b):=by
 subst hx
 exact fun_elder (Tryd.call24) rfl rfl fun G w _ _=>has_any S b h w
theorem f_first:FunS Tryd.prog 104 [setV S] shI S.first:=fun_elder (Tryd.call104) rfl rfl fun G w hT hG=>first_any S w (tab_bits hT hG)
theorem f_rhas (hx:x=b) (h:b<256):FunS Tryd.prog 27 [setV S,fI .i64 x] shB (S.has b):=by
 subst hx
 exact fun_elder (Tryd.call27) rfl rfl fun G w _ _=>rhas_any S b h w
end
end Go.Proofs.YtbpihhelojjedaaDoor
namespace Go.Proofs.YtbpihhelojjedaaDoor
open Go Go.RowKit
open Ab
namespace Rd
def rdOut {α:Type} (s:ByteArray) (op:Int) (sh:α→V):Res α→Out
 | .ok a p=>.ret (sh a) (rd s p op)
 | .bad e p=>.pan (faultV e p)
 | .out=>.ret .junk []
theorem ret_eq {α:Type} {s:ByteArray} {op:Int} {sh:α→V} {a:α} {p:Nat} {v:V} {J:Int} (hv:nrm v=sh a) (hJ:J=(p:Int)):rdOut s op sh (.ok a p)=.ret (nrm v) [fS s,fI .i64 J,fI .i64 op]:=by subst hJ;rw [hv];rfl
theorem pan_eq {α:Type} {s:ByteArray} {op:Int} {sh:α→V} {e:Int} {p:Nat} {X:Int} (hX:X=(p:Int)):rdOut s op sh (.bad e p:Res α)=.pan (nrm (faultV e X)):=by subst hX;rfl
theorem hex_f {b:Int} (h0: -1≤b) (h1:b≤255):FunS Tryd.prog 101 [fI .i64 b] shI (Rx.hexv b):=by
 refine fun_of lay_ok (Tryd.call101) (Tryd.func101) rfl ?_
 intro A E Q hE hf hQ
 cbv
 repeat' (first | (refine r_true hE rfl ?_;cbv) | (refine r_false hE rfl ?_;cbv) | (refine c_eql hE (fun h=>?_) (fun h=>?_)<;>first | (exfalso;omega) | cbv) | (refine c_neq hE (fun h=>?_) (fun h=>?_)<;>first | (exfalso;omega) | cbv) | (refine c_lss hE (fun h=>?_) (fun h=>?_)<;>first | (exfalso;omega) | cbv) | (refine c_leq hE (fun h=>?_) (fun h=>?_)<;>first | (exfalso;omega) | cbv) | (refine c_gtr hE (fun h=>?_) (fun h=>?_)<;>first | (exfalso;omega) | cbv) | (refine c_geq hE (fun h=>?_) (fun h=>?_)<;>first | (exfalso;omega) | cbv) | (refine c_seql hE (fun h=>?_) (fun h=>?_)<;>first | (exfalso;omega) | cbv) | (refine c_sneq hE (fun h=>?_) (fun h=>?_)<;>first | (exfalso;omega) | cbv) | (refine r_sin hE ?_ ?_ ?_;rotate_left 2;cbv) | (refine r_ssin hE ?_ ?_ ?_ ?_;rotate_left 3;cbv) | (refine use_draw hE lay_ok (by kernel_rfl) (by kernel_rfl) ?_;cbv) | (refine c_b hE (fun h=>?_) (fun h=>?_)<;>cbv))
 all_goals (refine (hQ _ _ _ rfl rfl (nrm_i ?_)).1;subst hE;dsimp only [dom,arF] at *;unfold Rx.hexv;(try simp only [IntKind.wrap_i64]);(repeat' split)<;>omega)
theorem digits_f:FunS Tryd.prog 99 [] setV Rx.digits:=by
 refine fun_of lay_ok (Tryd.call99) (Tryd.func99) rfl ?_
 intro A E Q hE hf hQ
 have h:=f_of (x:=48) (y:=57) (lo:=48) (hi:=57) rfl rfl (by decide) (by decide)
 cbv
 refine use_s hE h rfl rfl fun x hx=>?_
 cbv
 exact And.left (hQ _ _ _ rfl rfl (by rw [hx];rfl))
theorem words_f:FunS Tryd.prog 100 [] setV Rx.words:=by
 refine fun_of lay_ok (Tryd.call100) (Tryd.func100) rfl ?_
 intro A E Q hE hf hQ
 have h1:=f_of (x:=65) (y:=90) (lo:=65) (hi:=90) rfl rfl (by decide) (by decide)
 have h2:=f_of (x:=97) (y:=122) (lo:=97) (hi:=122) rfl rfl (by decide) (by decide)
 have h3:=f_of (x:=95) (y:=95) (lo:=95) (hi:=95) rfl rfl (by decide) (by decide)
 cbv
 refine use_s hE digits_f rfl rfl fun x hx=>?_
 cbv
 refine use_s hE h1 rfl rfl fun x1 hx1=>?_
 cbv
 refine use_s hE (f_or x x1) rfl rfl fun x2 hx2=>?_
 cbv
 refine use_s hE h2 rfl rfl fun x3 hx3=>?_
 cbv
 refine use_s hE h3 rfl rfl fun x4 hx4=>?_
 cbv
 refine use_s hE (f_or x3 x4) rfl rfl fun x5 hx5=>?_
 cbv
 refine use_s hE (f_or x2 x5) rfl rfl fun x6 hx6=>?_
 cbv
 exact (hQ _ _ _ rfl rfl (by subst hx6 hx5 hx4 hx3 hx2 hx1 hx;rfl)).1
theorem need_yes (s:ByteArray) {i:Int} (op:Int) {b:Int} (h0:0≤i) (hb:b=pkI s i) (hp:0≤b) (h1:i≤1000):Meth Tryd.prog 74 74 (rd s i op) [fI .u8 b] (.ret (.tup []) (rd s (i+1) op)):=by
 refine meth_of lay_ok (Tryd.call74) (Tryd.func74) rfl ?_
 intro A E Q hE hf hQ
 have hp:=peek_c s op h0
 have ha:E.ar .add .i64 i 1=i+1:=e_add hE (by omega) (by omega)
 have hc:E.conv .i64 b=b:=by rw [e_conv hE,IntKind.wrap_i64];have:=(pkb s.data.toList i.toNat).2;have:pkI s i≤255:=this;omega
 rw [←hb] at hp
 clear hb
 cbv
 repeat' (first | (refine r_true hE rfl ?_;cbv) | (refine r_false hE rfl ?_;cbv) | (refine use_meth hE hp rfl rfl rfl rfl rfl ?_;cbv) | (refine c_eql hE (fun h=>?_) (fun h=>?_)<;>first | (exfalso;omega) | cbv) | (refine c_neq hE (fun h=>?_) (fun h=>?_)<;>first | (exfalso;omega) | cbv) | (refine c_lss hE (fun h=>?_) (fun h=>?_)<;>first | (exfalso;omega) | cbv) | (refine c_leq hE (fun h=>?_) (fun h=>?_)<;>first | (exfalso;omega) | cbv) | (refine c_gtr hE (fun h=>?_) (fun h=>?_)<;>first | (exfalso;omega) | cbv) | (refine c_geq hE (fun h=>?_) (fun h=>?_)<;>first | (exfalso;omega) | cbv) | (refine c_seql hE (fun h=>?_) (fun h=>?_)<;>first | (exfalso;omega) | cbv) | (refine c_sneq hE (fun h=>?_) (fun h=>?_)<;>first | (exfalso;omega) | cbv) | (refine r_sin hE ?_ ?_ ?_;rotate_left 2;cbv) | (refine r_ssin hE ?_ ?_ ?_ ?_;rotate_left 3;cbv) | (refine use_draw hE lay_ok (by kernel_rfl) (by kernel_rfl) ?_;cbv) | (refine c_b hE (fun h=>?_) (fun h=>?_)<;>cbv))
 · exact absurd hc.symm h
 · refine And.right (hQ _ _ _ _ _ rfl rfl rfl rfl rfl ?_)
   rw [rd,←ha];rfl
theorem need_end (s:ByteArray) {i:Int} (op:Int) {b:Int} (h0:0≤i) (h:(s.size:Int)≤i) (hb:0≤b∧b≤255):Meth Tryd.prog 74 74 (rd s i op) [fI .u8 b] (.pan (faultV 1 s.size)):=by
 refine methP_of lay_ok (Tryd.call74) (Tryd.func74) rfl ?_
 intro A E Q hE hf hP
 have hp:=peek_c s op h0
 have hw:=wrong_end s op h0 h
 have hc:E.conv .i64 b=b:=by rw [e_conv hE,IntKind.wrap_i64];omega
 rw [pkI_ge h0 h] at hp
 generalize ((s.size:Nat):Int)=sz at *
 cbv
 repeat' (first | (refine r_true hE rfl ?_;cbv) | (refine r_false hE rfl ?_;cbv) | (refine use_meth hE hp rfl rfl rfl rfl rfl ?_;cbv) | (refine c_eql hE (fun h=>?_) (fun h=>?_)<;>first | (exfalso;omega) | cbv) | (refine c_neq hE (fun h=>?_) (fun h=>?_)<;>first | (exfalso;omega) | cbv) | (refine c_lss hE (fun h=>?_) (fun h=>?_)<;>first | (exfalso;omega) | cbv) | (refine c_leq hE (fun h=>?_) (fun h=>?_)<;>first | (exfalso;omega) | cbv) | (refine c_gtr hE (fun h=>?_) (fun h=>?_)<;>first | (exfalso;omega) | cbv) | (refine c_geq hE (fun h=>?_) (fun h=>?_)<;>first | (exfalso;omega) | cbv) | (refine c_seql hE (fun h=>?_) (fun h=>?_)<;>first | (exfalso;omega) | cbv) | (refine c_sneq hE (fun h=>?_) (fun h=>?_)<;>first | (exfalso;omega) | cbv) | (refine r_sin hE ?_ ?_ ?_;rotate_left 2;cbv) | (refine r_ssin hE ?_ ?_ ?_ ?_;rotate_left 3;cbv) | (refine use_draw hE lay_ok (by kernel_rfl) (by kernel_rfl) ?_;cbv) | (refine c_b hE (fun h=>?_) (fun h=>?_)<;>cbv))
 · refine use_methP hE hw rfl rfl rfl rfl rfl ?_
   exact hP _ _ _ rfl rfl rfl
 · exact absurd (h.trans hc) (by omega)
theorem need_form (s:ByteArray) {i:Int} (op:Int) {b:Int} (h0:0≤i) (h:i<(s.size:Int)) (hb:0≤b∧b≤255) (hn:pkI s i≠b):Meth Tryd.prog 74 74 (rd s i op) [fI .u8 b] (.pan (faultV 2 i)):=by
 refine methP_of lay_ok (Tryd.call74) (Tryd.func74) rfl ?_
 intro A E Q hE hf hP
 have hp:=peek_c s op h0
 have hw:=wrong_form s op h0 h
 have hc:E.conv .i64 b=b:=by rw [e_conv hE,IntKind.wrap_i64];omega
 generalize pkI s i=x at *
 cbv
 repeat' (first | (refine r_true hE rfl ?_;cbv) | (refine r_false hE rfl ?_;cbv) | (refine use_meth hE hp rfl rfl rfl rfl rfl ?_;cbv) | (refine c_eql hE (fun h=>?_) (fun h=>?_)<;>first | (exfalso;omega) | cbv) | (refine c_neq hE (fun h=>?_) (fun h=>?_)<;>first | (exfalso;omega) | cbv) | (refine c_lss hE (fun h=>?_) (fun h=>?_)<;>first | (exfalso;omega) | cbv) | (refine c_leq hE (fun h=>?_) (fun h=>?_)<;>first | (exfalso;omega) | cbv) | (refine c_gtr hE (fun h=>?_) (fun h=>?_)<;>first | (exfalso;omega) | cbv) | (refine c_geq hE (fun h=>?_) (fun h=>?_)<;>first | (exfalso;omega) | cbv) | (refine c_seql hE (fun h=>?_) (fun h=>?_)<;>first | (exfalso;omega) | cbv) | (refine c_sneq hE (fun h=>?_) (fun h=>?_)<;>first | (exfalso;omega) | cbv) | (refine r_sin hE ?_ ?_ ?_;rotate_left 2;cbv) | (refine r_ssin hE ?_ ?_ ?_ ?_;rotate_left 3;cbv) | (refine use_draw hE lay_ok (by kernel_rfl) (by kernel_rfl) ?_;cbv) | (refine c_b hE (fun h=>?_) (fun h=>?_)<;>cbv))
 · refine use_methP hE hw rfl rfl rfl rfl rfl ?_
   exact hP _ _ _ rfl rfl rfl
 · exact absurd (h.trans hc) hn
theorem sat_pk {P:Program} {A:Run} {E:Env} (hE:dom P A=E) {s:ByteArray} {I:Int} {i:Nat} (hI:I=(i:Int)) (h:i<s.size):E.sat s I=Rx.pk s.data.toList i:=by
 rw [e_sat hE]
 have:=pkI_lt (s:=s) (i:=I) (by omega) (by omega)
 unfold pkI at this
 rw [show i=I.toNat by omega]
 exact this.symm
theorem digs_step {l:List UInt8} {n j:Nat} (hj:j<l.length):Rx.digs l (l.length-j) n j=if Rx.digitB (Rx.pk l j) then Rx.digs l (l.length-(j+1)) (Nat.min (10*n+(Rx.pk l j-48).toNat) 1000) (j+1) else (n,j):=by
 rw [show l.length-j=(l.length-(j+1))+1 by omega];rfl
end Rd
end Go.Proofs.YtbpihhelojjedaaDoor
