/- Texts that the proof leans on. -/
import Derived.Shelf.Spec.TrailingZeros
import Derived.Test.YtpplemjjeefpdaaGreatDoorK216
set_option linter.unusedVariables false
set_option linter.unusedSimpArgs false
set_option maxRecDepth 100000
set_option maxHeartbeats 4000000
namespace Go.Proofs.YtpplemjjeefpdaaGreatDoor
open Go Go.RowKit
theorem rbetween_any (lo hi:Nat) (hlo:lo<256) (hhi:hi<256) (w:World):Calls Tryz.prog 168 #[.int .i64 lo,.int .i64 hi] w (RetG (.agg #[.int .u64 ((CSet.between lo hi).a.toNat:Int),.int .u64 ((CSet.between lo hi).b.toNat:Int),.int .u64 ((CSet.between lo hi).c.toNat:Int),.int .u64 ((CSet.between lo hi).d.toNat:Int)]) w):=by
 go_enter Tryz.func168,Tryz.ntmps168
 go_wp2
 go_loopw [6] (fun v wr=>∃k:Nat,(k=0∨lo+k≤hi+1)∧v=.int .i64 (lo+k:Nat)∧Blk wr w.heap.size #[.int .u64 0,.int .u64 0,.int .u64 0,.int .u64 0] 78∧Blk wr (w.heap.size+1) #[.int .u64 ((CSet.span lo k).a.toNat:Int),.int .u64 ((CSet.span lo k).b.toNat:Int),.int .u64 ((CSet.span lo k).c.toNat:Int),.int .u64 ((CSet.span lo k).d.toNat:Int)] 78∧Below w.heap.size w wr) (fun v _=>hi+1-(intOf v).toNat)
 case atStart=>exact ⟨0,.inl rfl,rfl,(Blk.new _ _ _).alloc _,by have:=Blk.new (w.alloc (.cells #[.int .u64 0,.int .u64 0,.int .u64 0,.int .u64 0] 78)) #[.int .u64 0,.int .u64 0,.int .u64 0,.int .u64 0] 78;simp only [World.size_alloc] at this;exact this,(by repeat (first | exact Below.refl _ _ | assumption | refine Below.setCell ?_ (by first | omega | (simp<;>omega)) _ | refine Below.alloc ?_ (by first | omega | (simp<;>omega)) _ | refine below_drewN ?_ _ | refine Below.drew ?_))⟩
 case round=>
  obtain ⟨k,hk,rfl,hA,hB,hb⟩:=hrel
  by_cases hlt:lo+k≤hi
  · (have g0:wr.cell? ⟨w.heap.size+1,0,none⟩=some (.int .u64 ((CSet.span lo k).a.toNat:Int)):=hB.cell 0;have g1:wr.cell? ⟨w.heap.size+1,1,none⟩=some (.int .u64 ((CSet.span lo k).b.toNat:Int)):=hB.cell 1;have g2:wr.cell? ⟨w.heap.size+1,2,none⟩=some (.int .u64 ((CSet.span lo k).c.toNat:Int)):=hB.cell 2;have g3:wr.cell? ⟨w.heap.size+1,3,none⟩=some (.int .u64 ((CSet.span lo k).d.toNat:Int)):=hB.cell 3;have gf:∀i,wr.frozen? ⟨w.heap.size+1,i,none⟩=false:=hB.frozen)
    have HA:=hid_mk hA
    have HB:=hid_mk hB
    have Hb:=hid_mk hb
    have hsz:w.heap.size+1<wr.heap.size:=hB.lt
    clear hA hB hb hk
    go_wp2_with fail
    refine (rwith_any (CSet.span lo k) (lo+k) (by omega) _).mono ?_
    rintro e w1 ⟨rfl,hb1⟩
    have HA1:=hid_mk (HA.out.call hb1)
    have HB1:=hid_mk (HB.out.call hb1)
    have Hb1:=hid_mk (Hb.out.trans (hb1.mono (by omega)))
    (have g0:w1.cell? ⟨w.heap.size+1,0,none⟩=some (.int .u64 ((CSet.span lo k).a.toNat:Int)):=HB1.out.cell 0;have g1:w1.cell? ⟨w.heap.size+1,1,none⟩=some (.int .u64 ((CSet.span lo k).b.toNat:Int)):=HB1.out.cell 1;have g2:w1.cell? ⟨w.heap.size+1,2,none⟩=some (.int .u64 ((CSet.span lo k).c.toNat:Int)):=HB1.out.cell 2;have g3:w1.cell? ⟨w.heap.size+1,3,none⟩=some (.int .u64 ((CSet.span lo k).d.toNat:Int)):=HB1.out.cell 3;have gf:∀i,w1.frozen? ⟨w.heap.size+1,i,none⟩=false:=HB1.out.frozen)
    clear hb1
    go_wp2
    go_roundw
    case rel=>exact ⟨k+1,.inr (by omega),by go_num,((((HA1.out.far (by simp) _).far (by simp) _).far (by simp) _).far (by simp) _),((((HB1.out.put 0 _).put 1 _).put 2 _).put 3 _),by have hb2:=Hb1.out;exact (by repeat (first | exact Below.refl _ _ | assumption | refine Below.setCell ?_ (by first | omega | (simp<;>omega)) _ | refine Below.alloc ?_ (by first | omega | (simp<;>omega)) _ | refine below_drewN ?_ _ | refine Below.drew ?_))⟩
    case measure=>simp [intOf];omega
  · have hn:CSet.span lo k=CSet.between lo hi:=by
     unfold CSet.between
     rcases hk with rfl | hk
     · rw [show hi+1-lo=0 by omega]
     · rw [show hi+1-lo=k by omega]
    rw [hn] at hB
    (have g0:wr.cell? ⟨w.heap.size+1,0,none⟩=some (.int .u64 ((CSet.between lo hi).a.toNat:Int)):=hB.cell 0;have g1:wr.cell? ⟨w.heap.size+1,1,none⟩=some (.int .u64 ((CSet.between lo hi).b.toNat:Int)):=hB.cell 1;have g2:wr.cell? ⟨w.heap.size+1,2,none⟩=some (.int .u64 ((CSet.between lo hi).c.toNat:Int)):=hB.cell 2;have g3:wr.cell? ⟨w.heap.size+1,3,none⟩=some (.int .u64 ((CSet.between lo hi).d.toNat:Int)):=hB.cell 3;have gf:∀i,wr.frozen? ⟨w.heap.size+1,i,none⟩=false:=hB.frozen)
    (have z0:wr.cell? ⟨w.heap.size,0,none⟩=some (.int .u64 0):=hA.cell 0;have z1:wr.cell? ⟨w.heap.size,1,none⟩=some (.int .u64 0):=hA.cell 1;have z2:wr.cell? ⟨w.heap.size,2,none⟩=some (.int .u64 0):=hA.cell 2;have z3:wr.cell? ⟨w.heap.size,3,none⟩=some (.int .u64 0):=hA.cell 3;have zf:∀i,wr.frozen? ⟨w.heap.size,i,none⟩=false:=hA.frozen)
    have HA:=hid_mk hA
    have HB:=hid_mk hB
    have Hb:=hid_mk hb
    clear hn hk hA hB hb
    go_wp2
    refine bodyPost_ret (v:=.agg #[.int .u64 ((CSet.between lo hi).a.toNat:Int),.int .u64 ((CSet.between lo hi).b.toNat:Int),.int .u64 ((CSet.between lo hi).c.toNat:Int),.int .u64 ((CSet.between lo hi).d.toNat:Int)]) (by simp [results,Tryz.results168,go_sem,z0,z1,z2,z3]) rfl ⟨rfl,?_⟩
    have hb2:=Hb.out
    exact (by repeat (first | exact Below.refl _ _ | assumption | refine Below.setCell ?_ (by first | omega | (simp<;>omega)) _ | refine Below.alloc ?_ (by first | omega | (simp<;>omega)) _ | refine below_drewN ?_ _ | refine Below.drew ?_))
theorem ror_any (S T:CSet) (w:World):Calls Tryz.prog 177 #[.agg #[.int .u64 ((S).a.toNat:Int),.int .u64 ((S).b.toNat:Int),.int .u64 ((S).c.toNat:Int),.int .u64 ((S).d.toNat:Int)],.agg #[.int .u64 ((T).a.toNat:Int),.int .u64 ((T).b.toNat:Int),.int .u64 ((T).c.toNat:Int),.int .u64 ((T).d.toNat:Int)]] w (RetG (.agg #[.int .u64 ((S.or T).a.toNat:Int),.int .u64 ((S.or T).b.toNat:Int),.int .u64 ((S.or T).c.toNat:Int),.int .u64 ((S.or T).d.toNat:Int)]) w):=by
 go_enter Tryz.func177,Tryz.ntmps177
 go_wp2
 go_loopw [5] (fun v wr=>∃k:Nat,k≤256∧v=.int .i64 (k:Nat)∧Blk wr w.heap.size #[.int .u64 ((S.orTo T k).a.toNat:Int),.int .u64 ((S.orTo T k).b.toNat:Int),.int .u64 ((S.orTo T k).c.toNat:Int),.int .u64 ((S.orTo T k).d.toNat:Int)] 78∧Blk wr (w.heap.size+1) #[.int .u64 ((T).a.toNat:Int),.int .u64 ((T).b.toNat:Int),.int .u64 ((T).c.toNat:Int),.int .u64 ((T).d.toNat:Int)] 78∧Blk wr (w.heap.size+2) #[.int .u64 0,.int .u64 0,.int .u64 0,.int .u64 0] 78∧Below w.heap.size w wr) (fun v _=>256-(intOf v).toNat)
 case atStart=>
  refine ⟨0,by omega,rfl,?_,?_,?_,(by repeat (first | exact Below.refl _ _ | assumption | refine Below.setCell ?_ (by first | omega | (simp<;>omega)) _ | refine Below.alloc ?_ (by first | omega | (simp<;>omega)) _ | refine below_drewN ?_ _ | refine Below.drew ?_))⟩
  · exact ((Blk.new _ _ _).alloc _).alloc _
  · have:=Blk.new (w.alloc (.cells #[.int .u64 ((S).a.toNat:Int),.int .u64 ((S).b.toNat:Int),.int .u64 ((S).c.toNat:Int),.int .u64 ((S).d.toNat:Int)] 78)) #[.int .u64 ((T).a.toNat:Int),.int .u64 ((T).b.toNat:Int),.int .u64 ((T).c.toNat:Int),.int .u64 ((T).d.toNat:Int)] 78
    simp only [World.size_alloc] at this
    exact this.alloc _
  · have:=Blk.new ((w.alloc (.cells #[.int .u64 ((S).a.toNat:Int),.int .u64 ((S).b.toNat:Int),.int .u64 ((S).c.toNat:Int),.int .u64 ((S).d.toNat:Int)] 78)).alloc (.cells #[.int .u64 ((T).a.toNat:Int),.int .u64 ((T).b.toNat:Int),.int .u64 ((T).c.toNat:Int),.int .u64 ((T).d.toNat:Int)] 78)) #[.int .u64 0,.int .u64 0,.int .u64 0,.int .u64 0] 78
    simp only [World.size_alloc] at this
    exact this
 case round=>
  obtain ⟨k,hk,rfl,hA,hB,hC,hb⟩:=hrel
  by_cases hlt:k<256
  · (have g0:wr.cell? ⟨w.heap.size,0,none⟩=some (.int .u64 ((S.orTo T k).a.toNat:Int)):=hA.cell 0;have g1:wr.cell? ⟨w.heap.size,1,none⟩=some (.int .u64 ((S.orTo T k).b.toNat:Int)):=hA.cell 1;have g2:wr.cell? ⟨w.heap.size,2,none⟩=some (.int .u64 ((S.orTo T k).c.toNat:Int)):=hA.cell 2;have g3:wr.cell? ⟨w.heap.size,3,none⟩=some (.int .u64 ((S.orTo T k).d.toNat:Int)):=hA.cell 3;have gf:∀i,wr.frozen? ⟨w.heap.size,i,none⟩=false:=hA.frozen)
    (have t0:wr.cell? ⟨w.heap.size+1,0,none⟩=some (.int .u64 ((T).a.toNat:Int)):=hB.cell 0;have t1:wr.cell? ⟨w.heap.size+1,1,none⟩=some (.int .u64 ((T).b.toNat:Int)):=hB.cell 1;have t2:wr.cell? ⟨w.heap.size+1,2,none⟩=some (.int .u64 ((T).c.toNat:Int)):=hB.cell 2;have t3:wr.cell? ⟨w.heap.size+1,3,none⟩=some (.int .u64 ((T).d.toNat:Int)):=hB.cell 3;have tf:∀i,wr.frozen? ⟨w.heap.size+1,i,none⟩=false:=hB.frozen)
    have HA:=hid_mk hA
    have HB:=hid_mk hB
    have HC:=hid_mk hC
    have Hb:=hid_mk hb
    have hsz:w.heap.size+2<wr.heap.size:=hC.lt
    clear hA hB hC hb hk
    have HH:=hide (fun w=>rhas_any T k hlt w)
    cases hh:T.has k with
    | true=>
      rw [hh] at HH
      go_wp2_with fail
      refine (unhide HH _).mono ?_
      rintro e w1 ⟨rfl,hb1⟩
      have HA1:=hid_mk (HA.out.call hb1)
      have HB1:=hid_mk (HB.out.call hb1)
      have HC1:=hid_mk (HC.out.call hb1)
      have Hb1:=hid_mk (Hb.out.trans (hb1.mono (by omega)))
      have hsz1:w.heap.size+2<w1.heap.size:=Nat.lt_of_lt_of_le hsz hb1.size
      (have g0:w1.cell? ⟨w.heap.size,0,none⟩=some (.int .u64 ((S.orTo T k).a.toNat:Int)):=HA1.out.cell 0;have g1:w1.cell? ⟨w.heap.size,1,none⟩=some (.int .u64 ((S.orTo T k).b.toNat:Int)):=HA1.out.cell 1;have g2:w1.cell? ⟨w.heap.size,2,none⟩=some (.int .u64 ((S.orTo T k).c.toNat:Int)):=HA1.out.cell 2;have g3:w1.cell? ⟨w.heap.size,3,none⟩=some (.int .u64 ((S.orTo T k).d.toNat:Int)):=HA1.out.cell 3;have gf:∀i,w1.frozen? ⟨w.heap.size,i,none⟩=false:=HA1.out.frozen)
      clear hb1 HH
      go_wp2_with fail
      refine (rwith_any (S.orTo T k) k hlt _).mono ?_
      rintro e w2 ⟨rfl,hb2⟩
      have HA2:=hid_mk (HA1.out.call hb2)
      have HB2:=hid_mk (HB1.out.call hb2)
      have HC2:=hid_mk (HC1.out.call hb2)
      have Hb2:=hid_mk (Hb1.out.trans (hb2.mono (by omega)))
      (have g0:w2.cell? ⟨w.heap.size,0,none⟩=some (.int .u64 ((S.orTo T k).a.toNat:Int)):=HA2.out.cell 0;have g1:w2.cell? ⟨w.heap.size,1,none⟩=some (.int .u64 ((S.orTo T k).b.toNat:Int)):=HA2.out.cell 1;have g2:w2.cell? ⟨w.heap.size,2,none⟩=some (.int .u64 ((S.orTo T k).c.toNat:Int)):=HA2.out.cell 2;have g3:w2.cell? ⟨w.heap.size,3,none⟩=some (.int .u64 ((S.orTo T k).d.toNat:Int)):=HA2.out.cell 3;have gf:∀i,w2.frozen? ⟨w.heap.size,i,none⟩=false:=HA2.out.frozen)
      clear hb2
      have hnext:S.orTo T (k+1)=(S.orTo T k).put k:=by rw [CSet.orTo,if_pos hh]
      have HN:=hid_mk hnext
      clear hnext hh
      go_wp2
      go_roundw
      case rel=>exact ⟨k+1,by omega,by go_num,by rw [HN.out];exact ((((HA2.out.put 0 _).put 1 _).put 2 _).put 3 _),((((HB2.out.far (by simp) _).far (by simp) _).far (by simp) _).far (by simp) _),((((HC2.out.far (by simp) _).far (by simp) _).far (by simp) _).far (by simp) _),by have hb2:=Hb2.out;exact (by repeat (first | exact Below.refl _ _ | assumption | refine Below.setCell ?_ (by first | omega | (simp<;>omega)) _ | refine Below.alloc ?_ (by first | omega | (simp<;>omega)) _ | refine below_drewN ?_ _ | refine Below.drew ?_))⟩
      case measure=>simp [intOf];omega
    | false=>
      rw [hh] at HH
      go_wp2_with fail
      refine (unhide HH _).mono ?_
      rintro e w1 ⟨rfl,hb1⟩
      have HA1:=hid_mk (HA.out.call hb1)
      have HB1:=hid_mk (HB.out.call hb1)
      have HC1:=hid_mk (HC.out.call hb1)
      have Hb1:=hid_mk (Hb.out.trans (hb1.mono (by omega)))
      have hnext:S.orTo T (k+1)=S.orTo T k:=by rw [CSet.orTo,if_neg (by simp [hh])]
      have HN:=hid_mk hnext
      clear hb1 HH hnext hh
      go_wp2
      go_roundw
      case rel=>exact ⟨k+1,by omega,by go_num,by rw [HN.out];exact HA1.out,HB1.out,HC1.out,Hb1.out⟩
      case measure=>simp [intOf];omega
  · have hk2:k=256:=by omega
    subst hk2
    rw [CSet.orTo_all] at hA
    (have g0:wr.cell? ⟨w.heap.size,0,none⟩=some (.int .u64 ((S.or T).a.toNat:Int)):=hA.cell 0;have g1:wr.cell? ⟨w.heap.size,1,none⟩=some (.int .u64 ((S.or T).b.toNat:Int)):=hA.cell 1;have g2:wr.cell? ⟨w.heap.size,2,none⟩=some (.int .u64 ((S.or T).c.toNat:Int)):=hA.cell 2;have g3:wr.cell? ⟨w.heap.size,3,none⟩=some (.int .u64 ((S.or T).d.toNat:Int)):=hA.cell 3;have gf:∀i,wr.frozen? ⟨w.heap.size,i,none⟩=false:=hA.frozen)
    (have z0:wr.cell? ⟨w.heap.size+2,0,none⟩=some (.int .u64 0):=hC.cell 0;have z1:wr.cell? ⟨w.heap.size+2,1,none⟩=some (.int .u64 0):=hC.cell 1;have z2:wr.cell? ⟨w.heap.size+2,2,none⟩=some (.int .u64 0):=hC.cell 2;have z3:wr.cell? ⟨w.heap.size+2,3,none⟩=some (.int .u64 0):=hC.cell 3;have zf:∀i,wr.frozen? ⟨w.heap.size+2,i,none⟩=false:=hC.frozen)
    have Hb:=hid_mk hb
    clear hA hB hC hb hk
    go_wp2
    refine bodyPost_ret (v:=.agg #[.int .u64 ((S.or T).a.toNat:Int),.int .u64 ((S.or T).b.toNat:Int),.int .u64 ((S.or T).c.toNat:Int),.int .u64 ((S.or T).d.toNat:Int)]) (by simp [results,Tryz.results177,go_sem,z0,z1,z2,z3]) rfl ⟨rfl,?_⟩
    have hb2:=Hb.out
    exact (by repeat (first | exact Below.refl _ _ | assumption | refine Below.setCell ?_ (by first | omega | (simp<;>omega)) _ | refine Below.alloc ?_ (by first | omega | (simp<;>omega)) _ | refine below_drewN ?_ _ | refine Below.drew ?_))
theorem rnot_any (S:CSet) (w:World):Calls Tryz.prog 178 #[.agg #[.int .u64 ((S).a.toNat:Int),.int .u64 ((S).b.toNat:Int),.int .u64 ((S).c.toNat:Int),.int .u64 ((S).d.toNat:Int)]] w (RetG (.agg #[.int .u64 ((S.not).a.toNat:Int),.int .u64 ((S.not).b.toNat:Int),.int .u64 ((S.not).c.toNat:Int),.int .u64 ((S.not).d.toNat:Int)]) w):=by
 go_enter Tryz.func178,Tryz.ntmps178
 go_wp2
 go_loopw [4] (fun v wr=>∃k:Nat,k≤256∧v=.int .i64 (k:Nat)∧Blk wr w.heap.size #[.int .u64 ((S).a.toNat:Int),.int .u64 ((S).b.toNat:Int),.int .u64 ((S).c.toNat:Int),.int .u64 ((S).d.toNat:Int)] 78∧Blk wr (w.heap.size+1) #[.int .u64 0,.int .u64 0,.int .u64 0,.int .u64 0] 78∧Blk wr (w.heap.size+2) #[.int .u64 ((S.notTo k).a.toNat:Int),.int .u64 ((S.notTo k).b.toNat:Int),.int .u64 ((S.notTo k).c.toNat:Int),.int .u64 ((S.notTo k).d.toNat:Int)] 78∧Below w.heap.size w wr) (fun v _=>256-(intOf v).toNat)
 case atStart=>
  refine ⟨0,by omega,rfl,?_,?_,?_,(by repeat (first | exact Below.refl _ _ | assumption | refine Below.setCell ?_ (by first | omega | (simp<;>omega)) _ | refine Below.alloc ?_ (by first | omega | (simp<;>omega)) _ | refine below_drewN ?_ _ | refine Below.drew ?_))⟩
  · exact ((Blk.new _ _ _).alloc _).alloc _
  · have:=Blk.new (w.alloc (.cells #[.int .u64 ((S).a.toNat:Int),.int .u64 ((S).b.toNat:Int),.int .u64 ((S).c.toNat:Int),.int .u64 ((S).d.toNat:Int)] 78)) #[.int .u64 0,.int .u64 0,.int .u64 0,.int .u64 0] 78
    simp only [World.size_alloc] at this
    exact this.alloc _
  · have:=Blk.new ((w.alloc (.cells #[.int .u64 ((S).a.toNat:Int),.int .u64 ((S).b.toNat:Int),.int .u64 ((S).c.toNat:Int),.int .u64 ((S).d.toNat:Int)] 78)).alloc (.cells #[.int .u64 0,.int .u64 0,.int .u64 0,.int .u64 0] 78)) #[.int .u64 0,.int .u64 0,.int .u64 0,.int .u64 0] 78
    simp only [World.size_alloc] at this
    exact this
 case round=>
  obtain ⟨k,hk,rfl,hA,hB,hC,hb⟩:=hrel
  by_cases hlt:k<256
  · (have g0:wr.cell? ⟨w.heap.size,0,none⟩=some (.int .u64 ((S).a.toNat:Int)):=hA.cell 0;have g1:wr.cell? ⟨w.heap.size,1,none⟩=some (.int .u64 ((S).b.toNat:Int)):=hA.cell 1;have g2:wr.cell? ⟨w.heap.size,2,none⟩=some (.int .u64 ((S).c.toNat:Int)):=hA.cell 2;have g3:wr.cell? ⟨w.heap.size,3,none⟩=some (.int .u64 ((S).d.toNat:Int)):=hA.cell 3;have gf:∀i,wr.frozen? ⟨w.heap.size,i,none⟩=false:=hA.frozen)
    have HA:=hid_mk hA
    have HB:=hid_mk hB
    have HC:=hid_mk hC
    have Hb:=hid_mk hb
    have hsz:w.heap.size+2<wr.heap.size:=hC.lt
    clear hA hB hC hb hk
    have HH:=hide (fun w=>rhas_any S k hlt w)
    cases hh:S.has k with
    | false=>
      rw [hh] at HH
      go_wp2_with fail
      refine (unhide HH _).mono ?_
      rintro e w1 ⟨rfl,hb1⟩
      have HA1:=hid_mk (HA.out.call hb1)
      have HB1:=hid_mk (HB.out.call hb1)
      have HC1:=hid_mk (HC.out.call hb1)
      have Hb1:=hid_mk (Hb.out.trans (hb1.mono (by omega)))
      have hsz1:w.heap.size+2<w1.heap.size:=Nat.lt_of_lt_of_le hsz hb1.size
      (have g0:w1.cell? ⟨w.heap.size+2,0,none⟩=some (.int .u64 ((S.notTo k).a.toNat:Int)):=HC1.out.cell 0;have g1:w1.cell? ⟨w.heap.size+2,1,none⟩=some (.int .u64 ((S.notTo k).b.toNat:Int)):=HC1.out.cell 1;have g2:w1.cell? ⟨w.heap.size+2,2,none⟩=some (.int .u64 ((S.notTo k).c.toNat:Int)):=HC1.out.cell 2;have g3:w1.cell? ⟨w.heap.size+2,3,none⟩=some (.int .u64 ((S.notTo k).d.toNat:Int)):=HC1.out.cell 3;have gf:∀i,w1.frozen? ⟨w.heap.size+2,i,none⟩=false:=HC1.out.frozen)
      clear hb1 HH
      go_wp2_with fail
      refine (rwith_any (S.notTo k) k hlt _).mono ?_
      rintro e w2 ⟨rfl,hb2⟩
      have HA2:=hid_mk (HA1.out.call hb2)
      have HB2:=hid_mk (HB1.out.call hb2)
      have HC2:=hid_mk (HC1.out.call hb2)
      have Hb2:=hid_mk (Hb1.out.trans (hb2.mono (by omega)))
      (have g0:w2.cell? ⟨w.heap.size+2,0,none⟩=some (.int .u64 ((S.notTo k).a.toNat:Int)):=HC2.out.cell 0;have g1:w2.cell? ⟨w.heap.size+2,1,none⟩=some (.int .u64 ((S.notTo k).b.toNat:Int)):=HC2.out.cell 1;have g2:w2.cell? ⟨w.heap.size+2,2,none⟩=some (.int .u64 ((S.notTo k).c.toNat:Int)):=HC2.out.cell 2;have g3:w2.cell? ⟨w.heap.size+2,3,none⟩=some (.int .u64 ((S.notTo k).d.toNat:Int)):=HC2.out.cell 3;have gf:∀i,w2.frozen? ⟨w.heap.size+2,i,none⟩=false:=HC2.out.frozen)
      clear hb2
      have hnext:S.notTo (k+1)=(S.notTo k).put k:=by simp [CSet.notTo,hh]
      have HN:=hid_mk hnext
      clear hnext hh
      go_wp2
      go_roundw
      case rel=>exact ⟨k+1,by omega,by go_num,((((HA2.out.far (by dsimp only;omega) _).far (by dsimp only;omega) _).far (by dsimp only;omega) _).far (by dsimp only;omega) _),((((HB2.out.far (by dsimp only;omega) _).far (by dsimp only;omega) _).far (by dsimp only;omega) _).far (by dsimp only;omega) _),by rw [HN.out];exact ((((HC2.out.put 0 _).put 1 _).put 2 _).put 3 _),by have hb2:=Hb2.out;exact (by repeat (first | exact Below.refl _ _ | assumption | refine Below.setCell ?_ (by first | omega | (simp<;>omega)) _ | refine Below.alloc ?_ (by first | omega | (simp<;>omega)) _ | refine below_drewN ?_ _ | refine Below.drew ?_))⟩
      case measure=>simp [intOf];omega
    | true=>
      rw [hh] at HH
      go_wp2_with fail
      refine (unhide HH _).mono ?_
      rintro e w1 ⟨rfl,hb1⟩
      have HA1:=hid_mk (HA.out.call hb1)
      have HB1:=hid_mk (HB.out.call hb1)
      have HC1:=hid_mk (HC.out.call hb1)
      have Hb1:=hid_mk (Hb.out.trans (hb1.mono (by omega)))
      have hnext:S.notTo (k+1)=S.notTo k:=by simp [CSet.notTo,hh]
      have HN:=hid_mk hnext
      clear hb1 HH hnext hh
      go_wp2
      go_roundw
      case rel=>exact ⟨k+1,by omega,by go_num,HA1.out,HB1.out,by rw [HN.out];exact HC1.out,Hb1.out⟩
      case measure=>simp [intOf];omega
  · have hk2:k=256:=by omega
    subst hk2
    rw [CSet.notTo_all] at hC
    (have g0:wr.cell? ⟨w.heap.size+2,0,none⟩=some (.int .u64 ((S.not).a.toNat:Int)):=hC.cell 0;have g1:wr.cell? ⟨w.heap.size+2,1,none⟩=some (.int .u64 ((S.not).b.toNat:Int)):=hC.cell 1;have g2:wr.cell? ⟨w.heap.size+2,2,none⟩=some (.int .u64 ((S.not).c.toNat:Int)):=hC.cell 2;have g3:wr.cell? ⟨w.heap.size+2,3,none⟩=some (.int .u64 ((S.not).d.toNat:Int)):=hC.cell 3;have gf:∀i,wr.frozen? ⟨w.heap.size+2,i,none⟩=false:=hC.frozen)
    (have z0:wr.cell? ⟨w.heap.size+1,0,none⟩=some (.int .u64 0):=hB.cell 0;have z1:wr.cell? ⟨w.heap.size+1,1,none⟩=some (.int .u64 0):=hB.cell 1;have z2:wr.cell? ⟨w.heap.size+1,2,none⟩=some (.int .u64 0):=hB.cell 2;have z3:wr.cell? ⟨w.heap.size+1,3,none⟩=some (.int .u64 0):=hB.cell 3;have zf:∀i,wr.frozen? ⟨w.heap.size+1,i,none⟩=false:=hB.frozen)
    have Hb:=hid_mk hb
    clear hA hB hC hb hk
    go_wp2
    refine bodyPost_ret (v:=.agg #[.int .u64 ((S.not).a.toNat:Int),.int .u64 ((S.not).b.toNat:Int),.int .u64 ((S.not).c.toNat:Int),.int .u64 ((S.not).d.toNat:Int)]) (by simp [results,Tryz.results178,go_sem,z0,z1,z2,z3]) rfl ⟨rfl,?_⟩
    have hb2:=Hb.out
    exact (by repeat (first | exact Below.refl _ _ | assumption | refine Below.setCell ?_ (by first | omega | (simp<;>omega)) _ | refine Below.alloc ?_ (by first | omega | (simp<;>omega)) _ | refine below_drewN ?_ _ | refine Below.drew ?_))
theorem rfirst_any (S:CSet) (w:World):Calls Tryz.prog 187 #[.agg #[.int .u64 ((S).a.toNat:Int),.int .u64 ((S).b.toNat:Int),.int .u64 ((S).c.toNat:Int),.int .u64 ((S).d.toNat:Int)]] w (RetG (.int .i64 S.first) w):=by
 go_enter Tryz.func187,Tryz.ntmps187
 go_wp2
 go_loopw [3] (fun v wr=>∃k:Nat,k≤256∧v=.int .i64 (k:Nat)∧Blk wr w.heap.size #[.int .u64 ((S).a.toNat:Int),.int .u64 ((S).b.toNat:Int),.int .u64 ((S).c.toNat:Int),.int .u64 ((S).d.toNat:Int)] 78∧(∀j,j<k→S.has j=false)∧Below w.heap.size w wr) (fun v _=>256-(intOf v).toNat)
 case atStart=>exact ⟨0,by omega,rfl,Blk.new _ _ _,fun j h=>absurd h (by omega),(by repeat (first | exact Below.refl _ _ | assumption | refine Below.setCell ?_ (by first | omega | (simp<;>omega)) _ | refine Below.alloc ?_ (by first | omega | (simp<;>omega)) _ | refine below_drewN ?_ _ | refine Below.drew ?_))⟩
 case round=>
  obtain ⟨k,hk,rfl,hA,hp,hb⟩:=hrel
  have HP:=hid_mk hp
  by_cases hlt:k<256
  · (have g0:wr.cell? ⟨w.heap.size,0,none⟩=some (.int .u64 ((S).a.toNat:Int)):=hA.cell 0;have g1:wr.cell? ⟨w.heap.size,1,none⟩=some (.int .u64 ((S).b.toNat:Int)):=hA.cell 1;have g2:wr.cell? ⟨w.heap.size,2,none⟩=some (.int .u64 ((S).c.toNat:Int)):=hA.cell 2;have g3:wr.cell? ⟨w.heap.size,3,none⟩=some (.int .u64 ((S).d.toNat:Int)):=hA.cell 3;have gf:∀i,wr.frozen? ⟨w.heap.size,i,none⟩=false:=hA.frozen)
    have HA:=hid_mk hA
    have Hb:=hid_mk hb
    have hsz:w.heap.size<wr.heap.size:=hA.lt
    clear hA hb hk hp
    have HH:=hide (fun w=>rhas_any S k hlt w)
    cases hh:S.has k with
    | false=>
      rw [hh] at HH
      have HN:=hid_mk hh
      clear hh
      go_wp2_with fail
      refine (unhide HH _).mono ?_
      rintro e w1 ⟨rfl,hb1⟩
      have HA1:=hid_mk (HA.out.call hb1)
      have Hb1:=hid_mk (Hb.out.trans (hb1.mono (by omega)))
      clear hb1 HH
      go_wp2
      go_roundw
      case rel=>exact ⟨k+1,by omega,by go_num,HA1.out,fun j hj=>by
       by_cases e:j=k
       · subst e;exact HN.out
       · exact HP.out j (by omega),Hb1.out⟩
      case measure=>simp [intOf];omega
    | true=>
      rw [hh] at HH
      have hf:S.first=k:=CSet.first_at S 256 0 k (by omega) (by omega) hh (fun j _ hj=>HP.out j hj)
      have HF:=hid_mk hf
      clear hh hf
      go_wp2_with fail
      refine (unhide HH _).mono ?_
      rintro e w1 ⟨rfl,hb1⟩
      have Hb1:=hid_mk (Hb.out.trans (hb1.mono (by omega)))
      clear hb1 HH
      go_wp2
      go_ret
      exact ⟨by rw [HF.out];rfl,Hb1.out⟩
  · have hf:S.first=-1:=CSet.first_none S 256 0 (fun j _ hj=>HP.out j (by omega))
    have HF:=hid_mk hf
    have Hb:=hid_mk hb
    clear hf hA hb hk hp
    go_wp2
    go_ret
    exact ⟨by rw [HF.out];rfl,Hb.out⟩
def TabW (w:World):Prop:=TabAt 3 Lib.deBruijn64tab w∧3<w.heap.size
theorem TabW.below {w w':World} (h:TabW w) (hb:Below w.heap.size w w'):TabW w':=⟨fun j hj=>(hb.cell (p:=⟨3,j,none⟩) h.2).trans (h.1 j hj),Nat.lt_of_lt_of_le h.2 hb.size⟩
theorem TabW.drewN {w:World} (h:TabW w) (n:Nat):TabW (w.drewN n):=h
theorem tz_core (x k idx:Nat) (w:World) (hx0:((x:Int)==0)=false)
 (key:IntKind.u64.wrap (bits BinOp.and IntKind.u64 (x:Int) (IntKind.u64.wrap (-(x:Int)))*285870213051353865) / 288230376151711744=(idx:Int))
 (hi:idx<64) (hk:k<64) (hcell:w.cell? ⟨3,idx,none⟩=some (.int .u8 k)):Calls Tryz.prog 196 #[.int .u64 x] w (Ret (.int .i64 k) w):=by
 go_enter Tryz.func196,Tryz.ntmps196
 go_wp2_with (simp only [key])
 go_ret
 exact ⟨rfl,rfl⟩
theorem tz_any (x:BitVec 64) (w:World) (hT:TabW w) (hx0:x.toNat≠0):Calls Tryz.prog 196 #[.int .u64 (x.toNat:Int)] w (Ret (.int .i64 (Lib.ctz 64 x.toNat)) w):=by
 obtain ⟨hlow,hk⟩:=Lib.lowest_bit 64 x.toNat hx0 x.isLt
 obtain ⟨hi,htab⟩:=Lib.deBruijn64_at _ hk
 have hcell:=hT.1 _ hi
 rw [htab] at hcell
 exact tz_core x.toNat _ _ w (by simp;omega) (tz64_key x.toNat _ x.isLt hx0 hlow) hi hk hcell
theorem retg_int {k:IntKind} {a b:Int} {w w':World} (h:a=b) (hb:Below w.heap.size w w'):RetG (.int k b) w (.returned (.int k a)) w':=⟨by rw [h],hb⟩
theorem ctz_bits (x:BitVec 64) (h:x.toNat≠0):Lib.ctz 64 x.toNat<64∧x.getLsbD (Lib.ctz 64 x.toNat)=true∧∀j,j<Lib.ctz 64 x.toNat→x.getLsbD j=false:=by
 obtain ⟨m,hm,hk⟩:=Lib.ctzFrom_spec 64 x.toNat (by omega) x.isLt
 have e:Lib.ctz 64 x.toNat=Lib.ctzFrom 64 x.toNat:=by unfold Lib.ctz;rw [if_neg h]
 rw [e]
 generalize Lib.ctzFrom 64 x.toNat=c at *
 refine ⟨hk,?_,fun j hj=>?_⟩
 · rw [BitVec.getLsbD,hm,Nat.mul_comm,Nat.testBit_mul_two_pow]
   simp [Nat.testBit_zero]
 · rw [BitVec.getLsbD,hm,Nat.mul_comm,Nat.testBit_mul_two_pow]
   simp;omega
theorem first_word (S:CSet) (k:Nat) (hk:k<4) (hp:∀i,i<k→(S.word i).toNat=0) (h:(S.word k).toNat≠0):S.first=64*(k:Int)+(Lib.ctz 64 (S.word k).toNat:Nat):=by
 obtain ⟨h1,h2,h3⟩:=ctz_bits (S.word k) h
 have:=CSet.first_at S 256 0 (64*k+Lib.ctz 64 (S.word k).toNat) (by omega) (by omega) (by
  unfold CSet.has
  rw [show (64*k+Lib.ctz 64 (S.word k).toNat) / 64=k by omega,show (64*k+Lib.ctz 64 (S.word k).toNat) % 64=Lib.ctz 64 (S.word k).toNat by omega]
  exact h2) (fun j _ hj=>by
  unfold CSet.has
  by_cases e:j / 64=k
  · rw [e]
    exact h3 _ (by omega)
  · have h0:=hp (j / 64) (by omega)
    rw [BitVec.getLsbD,h0]
    simp)
 unfold CSet.first
 rw [this]
 omega
theorem first_zero (S:CSet) (hp:∀i,i<4→(S.word i).toNat=0):S.first=-1:=CSet.first_none S 256 0 (fun j _ hj=>by
 unfold CSet.has
 rw [BitVec.getLsbD,hp (j / 64) (by omega)]
 simp)
theorem first_any (S:CSet) (w:World) (hT:TabW w):Calls Tryz.prog 195 #[.agg #[.int .u64 ((S).a.toNat:Int),.int .u64 ((S).b.toNat:Int),.int .u64 ((S).c.toNat:Int),.int .u64 ((S).d.toNat:Int)]] w (RetG (.int .i64 S.first) w):=by
 have i0:∀w,(Instr.index 78 (.agg #[.int .u64 ((S).a.toNat:Int),.int .u64 ((S).b.toNat:Int),.int .u64 ((S).c.toNat:Int),.int .u64 ((S).d.toNat:Int)]) (.int .i64 0)).run Tryz.prog w=.ok (.int .u64 (S.a.toNat:Int)) w:=fun _=>by kernel_rfl
 have i1:∀w,(Instr.index 78 (.agg #[.int .u64 ((S).a.toNat:Int),.int .u64 ((S).b.toNat:Int),.int .u64 ((S).c.toNat:Int),.int .u64 ((S).d.toNat:Int)]) (.int .i64 1)).run Tryz.prog w=.ok (.int .u64 (S.b.toNat:Int)) w:=fun _=>by kernel_rfl
 have i2:∀w,(Instr.index 78 (.agg #[.int .u64 ((S).a.toNat:Int),.int .u64 ((S).b.toNat:Int),.int .u64 ((S).c.toNat:Int),.int .u64 ((S).d.toNat:Int)]) (.int .i64 2)).run Tryz.prog w=.ok (.int .u64 (S.c.toNat:Int)) w:=fun _=>by kernel_rfl
 have i3:∀w,(Instr.index 78 (.agg #[.int .u64 ((S).a.toNat:Int),.int .u64 ((S).b.toNat:Int),.int .u64 ((S).c.toNat:Int),.int .u64 ((S).d.toNat:Int)]) (.int .i64 3)).run Tryz.prog w=.ok (.int .u64 (S.d.toNat:Int)) w:=fun _=>by kernel_rfl
 have HT:=hid_mk hT
 clear hT
 go_enter Tryz.func195,Tryz.ntmps195
 go_wp2
 go_loop [3,4,6] (fun _ _ v=>∃k:Nat,k≤4∧v=.int .i64 (k:Nat)∧(∀i,i<k→(S.word i).toNat=0)) (fun _ _ v=>4-(intOf v).toNat)
 case atStart=>exact ⟨0,by omega,rfl,fun i hi=>absurd hi (by omega)⟩
 case round=>
  obtain ⟨k,hk,rfl,hp⟩:=hrel
  have h5:k=0∨k=1∨k=2∨k=3∨k=4:=by omega
  have HP:=hid_mk hp
  clear hp
  rcases h5 with rfl | rfl | rfl | rfl | rfl
  · by_cases hz:S.a.toNat=0
    · have hz1:((S.a.toNat:Int) != 0)=false:=by simp [hz]
      have HZ:=hid_mk hz
      clear hz
      go_wp2
      go_round
      case rel=>exact ⟨1,by omega,rfl,fun i hi=>by
       by_cases e:i=0
       · subst e;exact HZ.out
       · exact HP.out i (by omega)⟩
      case measure=>simp [intOf]
    · have hz1:((S.a.toNat:Int) != 0)=true:=by simp [hz]
      have hf:=first_word S 0 (by omega) HP.out hz
      have hl:=(ctz_bits S.a hz).1
      have HC:=hide (tz_any S.a (w.alloc (.cells #[.int .u64 ((S).a.toNat:Int),.int .u64 ((S).b.toNat:Int),.int .u64 ((S).c.toNat:Int),.int .u64 ((S).d.toNat:Int)] 78)) (HT.out.below (by repeat (first | exact Below.refl _ _ | assumption | refine Below.setCell ?_ (by first | omega | (simp<;>omega)) _ | refine Below.alloc ?_ (by first | omega | (simp<;>omega)) _ | refine below_drewN ?_ _ | refine Below.drew ?_))) hz)
      have HF:=hid_mk hf
      simp only [CSet.word] at HF
      generalize Lib.ctz 64 S.a.toNat=c at *
      clear hz hf
      go_wp2_with (go_at_call 196;refine (unhide HC).mono ?_;rintro e w' ⟨rfl,rfl⟩)
      go_ret
      exact retg_int (by have:=HF.out;omega) (by repeat (first | exact Below.refl _ _ | assumption | refine Below.setCell ?_ (by first | omega | (simp<;>omega)) _ | refine Below.alloc ?_ (by first | omega | (simp<;>omega)) _ | refine below_drewN ?_ _ | refine Below.drew ?_))
  · by_cases hz:S.b.toNat=0
    · have hz1:((S.b.toNat:Int) != 0)=false:=by simp [hz]
      have HZ:=hid_mk hz
      clear hz
      go_wp2
      go_round
      case rel=>exact ⟨2,by omega,rfl,fun i hi=>by
       by_cases e:i=1
       · subst e;exact HZ.out
       · exact HP.out i (by omega)⟩
      case measure=>simp [intOf]
    · have hz1:((S.b.toNat:Int) != 0)=true:=by simp [hz]
      have hf:=first_word S 1 (by omega) HP.out hz
      have hl:=(ctz_bits S.b hz).1
      have HC:=hide (tz_any S.b (w.alloc (.cells #[.int .u64 ((S).a.toNat:Int),.int .u64 ((S).b.toNat:Int),.int .u64 ((S).c.toNat:Int),.int .u64 ((S).d.toNat:Int)] 78)) (HT.out.below (by repeat (first | exact Below.refl _ _ | assumption | refine Below.setCell ?_ (by first | omega | (simp<;>omega)) _ | refine Below.alloc ?_ (by first | omega | (simp<;>omega)) _ | refine below_drewN ?_ _ | refine Below.drew ?_))) hz)
      have HF:=hid_mk hf
      simp only [CSet.word] at HF
      generalize Lib.ctz 64 S.b.toNat=c at *
      clear hz hf
      go_wp2_with (go_at_call 196;refine (unhide HC).mono ?_;rintro e w' ⟨rfl,rfl⟩)
      go_ret
      exact retg_int (by have:=HF.out;omega) (by repeat (first | exact Below.refl _ _ | assumption | refine Below.setCell ?_ (by first | omega | (simp<;>omega)) _ | refine Below.alloc ?_ (by first | omega | (simp<;>omega)) _ | refine below_drewN ?_ _ | refine Below.drew ?_))
  · by_cases hz:S.c.toNat=0
    · have hz1:((S.c.toNat:Int) != 0)=false:=by simp [hz]
      have HZ:=hid_mk hz
      clear hz
      go_wp2
      go_round
      case rel=>exact ⟨3,by omega,rfl,fun i hi=>by
       by_cases e:i=2
       · subst e;exact HZ.out
       · exact HP.out i (by omega)⟩
      case measure=>simp [intOf]
    · have hz1:((S.c.toNat:Int) != 0)=true:=by simp [hz]
      have hf:=first_word S 2 (by omega) HP.out hz
      have hl:=(ctz_bits S.c hz).1
      have HC:=hide (tz_any S.c (w.alloc (.cells #[.int .u64 ((S).a.toNat:Int),.int .u64 ((S).b.toNat:Int),.int .u64 ((S).c.toNat:Int),.int .u64 ((S).d.toNat:Int)] 78)) (HT.out.below (by repeat (first | exact Below.refl _ _ | assumption | refine Below.setCell ?_ (by first | omega | (simp<;>omega)) _ | refine Below.alloc ?_ (by first | omega | (simp<;>omega)) _ | refine below_drewN ?_ _ | refine Below.drew ?_))) hz)
      have HF:=hid_mk hf
      simp only [CSet.word] at HF
      generalize Lib.ctz 64 S.c.toNat=c at *
      clear hz hf
      go_wp2_with (go_at_call 196;refine (unhide HC).mono ?_;rintro e w' ⟨rfl,rfl⟩)
      go_ret
      exact retg_int (by have:=HF.out;omega) (by repeat (first | exact Below.refl _ _ | assumption | refine Below.setCell ?_ (by first | omega | (simp<;>omega)) _ | refine Below.alloc ?_ (by first | omega | (simp<;>omega)) _ | refine below_drewN ?_ _ | refine Below.drew ?_))
  · by_cases hz:S.d.toNat=0
    · have hz1:((S.d.toNat:Int) != 0)=false:=by simp [hz]
      have HZ:=hid_mk hz
      clear hz
      go_wp2
      go_round
      case rel=>exact ⟨4,by omega,rfl,fun i hi=>by
       by_cases e:i=3
       · subst e;exact HZ.out
       · exact HP.out i (by omega)⟩
      case measure=>simp [intOf]
    · have hz1:((S.d.toNat:Int) != 0)=true:=by simp [hz]
      have hf:=first_word S 3 (by omega) HP.out hz
      have hl:=(ctz_bits S.d hz).1
      have HC:=hide (tz_any S.d (w.alloc (.cells #[.int .u64 ((S).a.toNat:Int),.int .u64 ((S).b.toNat:Int),.int .u64 ((S).c.toNat:Int),.int .u64 ((S).d.toNat:Int)] 78)) (HT.out.below (by repeat (first | exact Below.refl _ _ | assumption | refine Below.setCell ?_ (by first | omega | (simp<;>omega)) _ | refine Below.alloc ?_ (by first | omega | (simp<;>omega)) _ | refine below_drewN ?_ _ | refine Below.drew ?_))) hz)
      have HF:=hid_mk hf
      simp only [CSet.word] at HF
      generalize Lib.ctz 64 S.d.toNat=c at *
      clear hz hf
      go_wp2_with (go_at_call 196;refine (unhide HC).mono ?_;rintro e w' ⟨rfl,rfl⟩)
      go_ret
      exact retg_int (by have:=HF.out;omega) (by repeat (first | exact Below.refl _ _ | assumption | refine Below.setCell ?_ (by first | omega | (simp<;>omega)) _ | refine Below.alloc ?_ (by first | omega | (simp<;>omega)) _ | refine below_drewN ?_ _ | refine Below.drew ?_))
  · have hf:=first_zero S HP.out
    have HF:=hid_mk hf
    clear hf
    go_wp2
    go_ret
    exact ⟨by rw [HF.out];rfl,(by repeat (first | exact Below.refl _ _ | assumption | refine Below.setCell ?_ (by first | omega | (simp<;>omega)) _ | refine Below.alloc ?_ (by first | omega | (simp<;>omega)) _ | refine below_drewN ?_ _ | refine Below.drew ?_))⟩
end Go.Proofs.YtpplemjjeefpdaaGreatDoor
namespace Go.Proofs.YtpplemjjeefpdaaGreatDoor
open Go Go.RowKit Ab
def setV (S:CSet):V:=.agg [fI .u64 S.a.toNat,fI .u64 S.b.toNat,fI .u64 S.c.toNat,fI .u64 S.d.toNat]
theorem tab_bits {G:Nat→Prop} {w:World} (h:Tab G w) (hG:∀b,G b→b<w.heap.size):TabW w:=by
 obtain ⟨h1,h2⟩:=h.1 (3,Lib.deBruijn64tab.map fun n=>.int .u8 (Int.ofNat n)) (by simp [tabs])
 refine ⟨fun j hj=>?_,hG _ h1⟩
 rw [h2 j (.int .u8 (Int.ofNat (Lib.deBruijn64tab.getD j 0))) (by
  simp only [List.getElem?_map,List.getD_eq_getElem?_getD]
  have:j<Lib.deBruijn64tab.length:=by simpa using hj
  rw [List.getElem?_eq_getElem this]
  rfl)]
 rfl
section
variable (S T:CSet) {x y:Int} {lo hi b:Nat}
theorem f_of (hx:x=lo) (hy:y=hi) (h1:lo<256) (h2:hi<256):FunS Tryz.prog 182 [fI .u8 x,fI .u8 y] setV (CSet.between lo hi):=by
 subst hx hy
 exact fun_elder (Tryz.call182) rfl rfl fun G w _ _=>of_any lo hi h1 h2 w
theorem f_or:FunS Tryz.prog 188 [setV S,setV T] setV (S.or T):=fun_elder (Tryz.call188) rfl rfl fun G w _ _=>or_any S T w
theorem f_not:FunS Tryz.prog 190 [setV S] setV S.not:=fun_elder (Tryz.call190) rfl rfl fun G w _ _=>not_any S w
theorem f_has (hx:x=b) (h:b<256):FunS Tryz.prog 222 [setV S,fI .u8 x] shB (S.has b):=by
 subst hx
 exact fun_elder (Tryz.call222) rfl rfl fun G w _ _=>has_any S b h w
theorem f_first:FunS Tryz.prog 195 [setV S] shI S.first:=fun_elder (Tryz.call195) rfl rfl fun G w hT hG=>first_any S w (tab_bits hT hG)
theorem f_rof (hx:x=lo) (hy:y=hi) (h1:lo<256) (h2:hi<256):FunS Tryz.prog 168 [fI .i64 x,fI .i64 y] setV (CSet.between lo hi):=by
 subst hx hy
 exact fun_elder (Tryz.call168) rfl rfl fun G w _ _=>rbetween_any lo hi h1 h2 w
theorem f_ror:FunS Tryz.prog 177 [setV S,setV T] setV (S.or T):=fun_elder (Tryz.call177) rfl rfl fun G w _ _=>ror_any S T w
theorem f_rnot:FunS Tryz.prog 178 [setV S] setV S.not:=fun_elder (Tryz.call178) rfl rfl fun G w _ _=>rnot_any S w
theorem f_rwith (hx:x=b) (h:b<256):FunS Tryz.prog 175 [setV S,fI .i64 x] setV (S.put b):=by
 subst hx
 exact fun_elder (Tryz.call175) rfl rfl fun G w _ _=>rwith_any S b h w
theorem f_rfirst:FunS Tryz.prog 187 [setV S] shI S.first:=fun_elder (Tryz.call187) rfl rfl fun G w _ _=>rfirst_any S w
end
end Go.Proofs.YtpplemjjeefpdaaGreatDoor
