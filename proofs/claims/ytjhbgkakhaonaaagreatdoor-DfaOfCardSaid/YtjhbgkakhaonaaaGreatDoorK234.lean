/- Texts that the proof leans on. -/
import Derived.Test.YtjhbgkakhaonaaaGreatDoorK233
set_option linter.unusedVariables false
set_option linter.unusedSimpArgs false
set_option maxRecDepth 100000
set_option maxHeartbeats 4000000
namespace Go.Proofs.YtjhbgkakhaonaaaGreatDoor
open Go
open Sh Gn
namespace Pl
theorem at_nat {α:Type} (l:List α) (i:Nat):at_ l (i:Int)=l[i]?:=by
 unfold at_;rw [if_pos (by omega)];simp
theorem at_in {α:Type} {l:List α} {i:Nat} (h:i<l.length):at_ l (i:Int)=some l[i]:=by rw [at_nat,List.getElem?_eq_getElem h]
theorem at_int {α:Type} {l:List α} {x:Int} (h0:0≤x) (h:x<l.length):∃y,at_ l x=some y∧l[x.toNat]?=some y:=by
 obtain ⟨i,rfl⟩:=Int.eq_ofNat_of_zero_le h0
 exact ⟨l[i]'(by omega),at_in (by omega),by rw [Int.toNat_natCast];exact List.getElem?_eq_getElem (by omega)⟩
theorem inc1 {i:Nat} (h:i≤100000000):ar .add .i64 (i:Int) 1=((i+1:Nat):Int):=by rw [ar_add (by omega) (by omega)];omega
theorem app_eq {α:Type} {c:α→List Ab.T} {l m:List α} (h:l.length+m.length≤1000000000):app c l m=some (l++m):=by unfold app;rw [if_pos h]
theorem rising_p {l:List Int} {many:Int} (hl:l.length≤1000000):∀(m i:Nat) (last:Int),i≤l.length→l.length<i+m→spots_rising_l1 l many m last i=some (rs many last (l.drop i)):=by
 intro m
 induction m with
 | zero=>intro i last h1 h2;omega
 | succ m ih=>
   intro i last h1 h2
   rw [spots_rising_l1]
   simp only [cm_lss,ll_eq,cond_dec,cm_leq,cm_geq]
   by_cases c:i<l.length
   · rw [if_pos (by omega),at_in c,List.drop_eq_getElem_cons c,rs]
     simp only [Option.bind_some,inc1 (show i≤100000000 by omega)]
     by_cases g:l[i]≤last
     · simp only [g,if_true,Option.bind_some,true_or,_root_.cond_true]
     · by_cases g2:many≤l[i]
       · simp only [g,g2,if_false,Option.bind_some,decide_true,or_true,if_true,_root_.cond_true]
       · simp only [g,g2,if_false,Option.bind_some,decide_false,or_false,_root_.cond_false]
         exact ih (i+1) _ (by omega) (by omega)
   · rw [if_neg (by omega),List.drop_of_length_le (by omega),rs]
theorem rrising_p {l:List Int} {many:Int} (hl:l.length≤1000000):∀(m i:Nat) (last:Int),i≤l.length→l.length<i+m→(i=0→last=-1)→(∀h:0<i∧i≤l.length,last=l[i-1]∧0≤last)→r16_rising_l1 l many m i=some (rs many last (l.drop i)):=by
 intro m
 induction m with
 | zero=>intro i last h1 h2;omega
 | succ m ih =>
   intro i last h1 h2 h3 h4
   rw [r16_rising_l1]
   simp only [cm_lss,ll_eq,cond_dec,cm_leq,cm_geq,cm_gtr]
   by_cases c:i<l.length
   · have next:∀_:¬(l[i]≤last∨many≤l[i]),r16_rising_l1 l many m (ar .add .i64 i 1)=some (rs many l[i] (l.drop (i+1))):=fun g=>by
      rw [inc1 (by omega)]
      refine ih (i+1) _ (by omega) (by omega) (by omega) fun h=>⟨by simp,?_⟩
      by_cases e:i=0
      · have:=h3 e;omega
      · have:=(h4 ⟨by omega,by omega⟩).2;omega
     rw [if_pos (by omega),at_in c,List.drop_eq_getElem_cons c,rs]
     simp only [Option.bind_some]
     by_cases e:i=0
     · subst e
       have h3:=h3 rfl
       subst h3
       have e0:¬(0:Int)<((0:Nat):Int):=by omega
       by_cases g:l[0]<0
       · have g':l[0]≤-1:=by omega
         simp only [g,g',if_true,true_or]
       · have g':¬ l[0]≤-1:=by omega
         by_cases g2:many≤l[0]
         · simp only [g,g',g2,if_false,if_true,or_true]
         · simp only [g,g',g2,if_false,or_false,e0]
           exact next (by omega)
     · obtain ⟨h5,h6⟩:=h4 ⟨by omega,by omega⟩
       have e1:(0:Int)<(i:Int):=by omega
       have e2:ar .sub .i64 (i:Int) 1=((i-1:Nat):Int):=by rw [ar_sub (by omega) (by omega)];omega
       have e3:at_ l (ar .sub .i64 (i:Int) 1)=some last:=by rw [e2,at_in (by omega),h5]
       by_cases g:l[i]<0
       · have g':l[i]≤last:=by omega
         simp only [g,g',if_true,true_or]
       · by_cases g2:many≤l[i]
         · simp only [g,g2,if_false,if_true,or_true]
         · by_cases g3:l[i]≤last
           · simp only [g,g2,g3,if_false,if_true,e1,e3,Option.bind_some,or_false]
           · simp only [g,g2,g3,if_false,if_true,e1,e3,Option.bind_some,or_false]
             exact next (by omega)
   · rw [if_neg (by omega),List.drop_of_length_le (by omega),rs]
theorem rs_in {many:Int}:∀{l:List Int} {last:Int},rs many last l=true→-1≤last→∀x∈l,0≤x∧x<many
 | [],_,_,_,x,h=>by cases h
 | y ::l,last,h,hl,x,hx=>by
   rw [rs] at h
   split at h
   · cases h
   · rename_i g
     rcases List.mem_cons.1 hx with rfl | hx
     · omega
     · exact rs_in h (by omega) x hx
def okB (p:GSpots):Bool:= !(decide (512<(p.Sets.length:Int)))&&(decide ((p.Next.length:Int)=p.Sets.length)&&(rs p.Sets.length (-1) p.First&&(rs p.Sets.length (-1) p.Last&&p.Next.all (rs p.Sets.length (-1)))))
structure Low (p:GSpots):Prop where
 sets:p.Sets.length≤200
 next:p.Next.length≤200
 first:p.First.length≤200
 last:p.Last.length≤200
 each:∀l∈p.Next,l.length≤200
variable {p:GSpots}
theorem right_l (hp:Low p) {N:Nat} (hN:250≤N):∀(m i:Nat),i≤p.Next.length→p.Next.length<i+m→spots_Right_l3 N p m i=some ((p.Next.drop i).all (rs p.Sets.length (-1))):=by
 intro m
 induction m with
 | zero=>intro i h1 h2;omega
 | succ m ih=>
   intro i h1 h2
   have:=hp.next
   rw [spots_Right_l3]
   simp only [cm_lss,ll_eq,cond_dec,cm_geq]
   by_cases c:i<p.Next.length
   · have hl:=hp.each p.Next[i] (List.getElem_mem c)
     have h5:spots_rising_g N p.Next[i] p.Sets.length=some (rs p.Sets.length (-1) p.Next[i]):=rising_p (by omega) N 0 (-1) (by omega) (by omega)
     rw [if_pos (by omega),at_in c,List.drop_eq_getElem_cons c,List.all_cons]
     simp only [Option.bind_some,h5,inc1 (show i≤100000000 by omega),cond_not]
     cases h6:rs p.Sets.length (-1) p.Next[i] with
     | true=>simp only [_root_.cond_true,Bool.true_and];exact ih (i+1) (by omega) (by omega)
     | false=>
       have:(0:Int)≤i:=by omega
       simp only [_root_.cond_false,Bool.false_and,this,decide_true,Bool.not_true]
   · rw [if_neg (by omega),List.drop_of_length_le (by omega)]
     rfl
theorem rright_l (hp:Low p) {N:Nat} (hN:250≤N) (he:p.Next.length=p.Sets.length):∀(m i:Nat),i≤p.Next.length→p.Next.length<i+m→r16_Right_l1 N p m i=some ((p.Next.drop i).all (rs p.Sets.length (-1))):=by
 intro m
 induction m with
 | zero=>intro i h1 h2;omega
 | succ m ih=>
   intro i h1 h2
   have:=hp.next
   rw [r16_Right_l1]
   simp only [cm_lss,ll_eq,cond_dec,cm_geq]
   by_cases c:i<p.Next.length
   · have hl:=hp.each p.Next[i] (List.getElem_mem c)
     have h5:r16_rising_g N p.Next[i] p.Sets.length=some (rs p.Sets.length (-1) p.Next[i]):=rrising_p (by omega) N 0 (-1) (by omega) (by omega) (fun _=>rfl) (fun h=>by omega)
     rw [if_pos (by omega),at_in c,List.drop_eq_getElem_cons c,List.all_cons]
     simp only [Option.bind_some,h5,inc1 (show i≤100000000 by omega),cond_not]
     cases h6:rs p.Sets.length (-1) p.Next[i] with
     | true=>simp only [_root_.cond_true,Bool.true_and];exact ih (i+1) (by omega) (by omega)
     | false=>simp only [_root_.cond_false,Bool.false_and]
   · rw [if_neg (by omega),List.drop_of_length_le (by omega)]
     rfl
theorem right_p (hp:Low p) {N:Nat} (hN:250≤N):spots_Right_g N p=some (okB p):=by
 have h1:=hp.sets
 have h2:=hp.next
 have h3:=hp.first
 have h4:=hp.last
 have f:spots_rising_g N p.First p.Sets.length=some (rs p.Sets.length (-1) p.First):=rising_p (by omega) N 0 (-1) (by omega) (by omega)
 have g:spots_rising_g N p.Last p.Sets.length=some (rs p.Sets.length (-1) p.Last):=rising_p (by omega) N 0 (-1) (by omega) (by omega)
 have r:spots_Right_l3 N p N 0=some (p.Next.all (rs p.Sets.length (-1))):=right_l hp hN N 0 (by omega) (by omega)
 unfold spots_Right_g okB
 simp only [cm_gtr,ll_eq,cond_dec,cm_neq,cond_not,f,g,r,Option.bind_some]
 have c:¬(512:Int)<p.Sets.length:=by omega
 simp only [c,if_false,decide_false,Bool.not_false,Bool.true_and]
 by_cases c2:(p.Next.length:Int)=p.Sets.length
 · simp only [c2,if_true,decide_true,Bool.true_and]
   cases rs p.Sets.length (-1) p.First<;>cases rs p.Sets.length (-1) p.Last<;>rfl
 · simp only [c2,if_false,decide_false,Bool.false_and];rfl
theorem rright_p (hp:Low p) {N:Nat} (hN:250≤N):r16_Right_g N p=some (okB p):=by
 have h1:=hp.sets
 have h2:=hp.next
 have h3:=hp.first
 have h4:=hp.last
 have f:r16_rising_g N p.First p.Sets.length=some (rs p.Sets.length (-1) p.First):=rrising_p (by omega) N 0 (-1) (by omega) (by omega) (fun _=>rfl) (fun h=>by omega)
 have g:r16_rising_g N p.Last p.Sets.length=some (rs p.Sets.length (-1) p.Last):=rrising_p (by omega) N 0 (-1) (by omega) (by omega) (fun _=>rfl) (fun h=>by omega)
 unfold r16_Right_g okB
 simp only [cm_gtr,ll_eq,cond_dec,cm_neq,cond_not,f,g,Option.bind_some]
 have c:¬(512:Int)<p.Sets.length:=by omega
 simp only [c,if_false,decide_false,Bool.not_false,Bool.true_and]
 by_cases c2:(p.Next.length:Int)=p.Sets.length
 · have r:r16_Right_l1 N p N 0=some (p.Next.all (rs p.Sets.length (-1))):=rright_l hp hN (by omega) N 0 (by omega) (by omega)
   simp only [c2,if_true,decide_true,Bool.true_and,r]
   cases rs p.Sets.length (-1) p.First<;>cases rs p.Sets.length (-1) p.Last<;>rfl
 · simp only [c2,if_false,decide_false,Bool.false_and];rfl
end Pl
end Go.Proofs.YtjhbgkakhaonaaaGreatDoor
namespace Go.Proofs.YtjhbgkakhaonaaaGreatDoor
open Go
open Sh Gn
namespace Pl
def pickL (many:Nat) (f:Int→Bool):List Int:=((List.range many).map Int.ofNat).filter f
theorem mem_pick {many:Nat} {f:Int→Bool} {x:Int}:x∈pickL many f↔(0≤x∧x<many)∧f x=true:=by
 unfold pickL
 rw [List.mem_filter,List.mem_map]
 constructor
 · rintro ⟨⟨n,hn,rfl⟩,h⟩
   have:=List.mem_range.1 hn
   exact ⟨⟨by simp,by simpa using this⟩,h⟩
 · rintro ⟨⟨h1,h2⟩,h⟩
   exact ⟨⟨x.toNat,List.mem_range.2 (by omega),by simp;omega⟩,h⟩
theorem pick_congr {many:Nat} {f g:Int→Bool} (h:∀x:Int,0≤x→x<(many:Int)→f x=g x):pickL many f=pickL many g:=by
 unfold pickL
 refine List.filter_congr fun x hx=>?_
 obtain ⟨n,hn,rfl⟩:=List.mem_map.1 hx
 have:=List.mem_range.1 hn
 exact h _ (by simp) (by simpa using this)
theorem pick_len {many:Nat} {f:Int→Bool}:(pickL many f).length≤many:=by
 unfold pickL
 refine Nat.le_trans (List.length_filter_le _ _) ?_
 simp
def pickF (i many:Nat) (f:Int→Bool):List Int:=(((List.range many).drop i).map Int.ofNat).filter f
theorem pickF_0 {many:Nat} {f:Int→Bool}:pickF 0 many f=pickL many f:=rfl
theorem pickF_s {i many:Nat} {f:Int→Bool} (h:i<many):pickF i many f=if f i then (i:Int)::pickF (i+1) many f else pickF (i+1) many f:=by
 unfold pickF
 rw [List.drop_eq_getElem_cons (by simpa using h),List.map_cons,List.filter_cons,List.getElem_range]
 rfl
theorem pickF_e {many:Nat} {f:Int→Bool}:pickF many many f=[]:=by
 unfold pickF
 rw [List.drop_of_length_le (by simp)]
 rfl
theorem in_l (l:List Int) (x:Int) (hl:l.length≤1000000):∀(m i:Nat),i≤l.length→l.length<i+m→r16_in_l1 l x m i=some (decide (x∈l.drop i)):=by
 intro m
 induction m with
 | zero=>intro i h1 h2;omega
 | succ m ih=>
   intro i h1 h2
   rw [r16_in_l1]
   simp only [cm_lss,ll_eq,cond_dec,cm_eql]
   by_cases c:i<l.length
   · rw [if_pos (by omega),at_in c,List.drop_eq_getElem_cons c]
     simp only [Option.bind_some,inc1 (show i≤100000000 by omega)]
     by_cases e:l[i]=x
     · rw [if_pos e,decide_eq_true (by rw [e];exact List.mem_cons_self)]
     · rw [if_neg e,ih (i+1) (by omega) (by omega)]
       congr 1
       rw [decide_eq_decide,List.mem_cons]
       exact ⟨.inr,fun h=>h.resolve_left (fun h=>e h.symm)⟩
   · rw [if_neg (by omega),List.drop_of_length_le (by omega)]
     rfl
theorem in_p {N:Nat} {l:List Int} {x:Int} (h:l.length<N) (h2:l.length≤1000000):r16_in_g N l x=some (decide (x∈l)):=in_l l x h2 N 0 (by omega) (by omega)
theorem join_l {N:Nat} {a b:List Int} {many:Nat} (ha:a.length<N) (ha2:a.length≤1000000) (hb:b.length<N) (hb2:b.length≤1000000) (hm:many≤1000000):∀(m i:Nat) (acc:List Int),i≤many→many<i+m→acc.length≤i→r16_Join_l1 N a b many m i acc=some (acc++pickF i many fun n=>decide (n∈a)||decide (n∈b)):=by
 intro m
 induction m with
 | zero=>intro i acc h1 h2;omega
 | succ m ih=>
   intro i acc h1 h2 h3
   rw [r16_Join_l1]
   simp only [cm_lss,cond_dec,in_p ha ha2,in_p hb hb2,Option.bind_some]
   by_cases c:i<many
   · rw [if_pos (by omega),pickF_s c,inc1 (by omega)]
     by_cases e:(i:Int)∈a
     · simp only [e,if_true,Option.bind_some,_root_.cond_true,decide_true,Bool.true_or,app_eq (show acc.length+[(i:Int)].length≤1000000000 by simp;omega)]
       rw [ih (i+1) _ (by omega) (by omega) (by simp;omega)]
       simp
     · by_cases e2:(i:Int)∈b
       · simp only [e,e2,if_true,if_false,Option.bind_some,_root_.cond_true,decide_true,decide_false,Bool.or_true,app_eq (show acc.length+[(i:Int)].length≤1000000000 by simp;omega)]
         rw [ih (i+1) _ (by omega) (by omega) (by simp;omega)]
         simp
       · simp only [e,e2,if_false,Option.bind_some,_root_.cond_false,decide_false,Bool.or_false,Bool.false_eq_true]
         exact ih (i+1) _ (by omega) (by omega) (by omega)
   · rw [if_neg (by omega),show i=many by omega,pickF_e,List.append_nil]
theorem join_p {N:Nat} {a b:List Int} {many:Nat} (ha:a.length<N) (ha2:a.length≤1000000) (hb:b.length<N) (hb2:b.length≤1000000) (hm:many≤1000000) (hN:many<N):r16_Join_g N a b many=some (pickL many fun n=>decide (n∈a)||decide (n∈b)):=by
 unfold r16_Join_g
 have h:r16_Join_l1 N a b many N 0 []=_:=join_l ha ha2 hb hb2 hm N 0 [] (by omega) (by omega) (by simp)
 rw [h,List.nil_append,pickF_0]
def Fit (p:GSpots) (l:List Int):Prop:=l.length≤200∧∀x∈l,0≤x∧x<(p.Sets.length:Int)
variable {p:GSpots}
structure Ok (p:GSpots):Prop where
 low:Low p
 len:p.Next.length=p.Sets.length
 first:Fit p p.First
 last:Fit p p.Last
 each:∀l∈p.Next,Fit p l
theorem ok_of (hp:Low p) (h:okB p=true):Ok p:=by
 unfold okB at h
 simp only [Bool.and_eq_true,decide_eq_true_eq,List.all_eq_true] at h
 obtain ⟨-,h1,h2,h3,h4⟩:=h
 exact ⟨hp,by omega,⟨hp.first,fun x hx=>rs_in h2 (by omega) x hx⟩,⟨hp.last,fun x hx=>rs_in h3 (by omega) x hx⟩,fun l hl=>⟨hp.each l hl,fun x hx=>rs_in (h4 l hl) (by omega) x hx⟩⟩
theorem Ok.next_at (hp:Ok p) {k:Int} (h:0≤k∧k<p.Sets.length):at_ p.Next k=some (nextOf p k)∧Fit p (nextOf p k):=by
 have hl:=hp.len
 obtain ⟨y,h1,h2⟩:=at_int (l:=p.Next) (x:=k) h.1 (by omega)
 have e:nextOf p k=y:=by unfold nextOf;rw [List.getD_eq_getElem?_getD,h2];rfl
 rw [e]
 exact ⟨h1,hp.each _ (List.mem_of_getElem? h2)⟩
theorem fit_pick (hp:Low p) {f:Int→Bool}:Fit p (pickL p.Sets.length f):=by
 have:=hp.sets
 exact ⟨Nat.le_trans pick_len (by omega),fun x hx=>(mem_pick.1 hx).1⟩
def Mk (many:Nat) (b:List Bool) (acc:List Int):Prop:=b.length=many∧∀k:Nat,k<many→b[k]?=some (decide ((k:Int)∈acc))
theorem mk_0 {many:Nat}:Mk many (List.replicate many false) []:=⟨by simp,fun k hk=>by rw [List.getElem?_replicate,if_pos hk];simp⟩
theorem mk_at {many:Nat} {b:List Bool} {acc:List Int} (h:Mk many b acc) {x:Int} (hx:0≤x∧x<many):at_ b x=some (decide (x∈acc)):=by
 obtain ⟨k,rfl⟩:=Int.eq_ofNat_of_zero_le hx.1
 rw [at_nat]
 exact h.2 k (by omega)
theorem mk_set {many:Nat} {b:List Bool} {acc:List Int} (h:Mk many b acc) {x:Int} (hx:0≤x∧x<many):Mk many (b.set x.toNat true) (acc++[x]):=by
 refine ⟨by rw [List.length_set];exact h.1,fun k hk=>?_⟩
 by_cases e:x.toNat=k
 · rw [e,List.getElem?_set_self (by rw [h.1];exact hk),decide_eq_true]
   rw [List.mem_append];right
   rw [List.mem_singleton];omega
 · rw [List.getElem?_set_ne e,h.2 k hk]
   congr 1
   rw [decide_eq_decide,List.mem_append,List.mem_singleton]
   exact ⟨.inl,fun h=>h.resolve_right (by omega)⟩
def Can (p:GSpots) (l:List Int):Prop:=l=pickL p.Sets.length fun n=>decide (n∈l)
theorem can_nil:Can p []:=by
 unfold Can pickL
 rw [eq_comm,List.filter_eq_nil_iff]
 intro a _;simp
end Pl
end Go.Proofs.YtjhbgkakhaonaaaGreatDoor
namespace Go.Proofs.YtjhbgkakhaonaaaGreatDoor
open Go
open Sh Gn
open Pl (pickL mem_pick pick_congr pick_len pickF pickF_0 pickF_s pickF_e Fit Low nextOf Mk mk_0 mk_at mk_set Can can_nil in_p join_p rs rs_in okB)
namespace Dq
def setK (p:GSpots) (acc:List Int) (b:Nat):List Int:=pickL p.Sets.length fun x=>decide (x∈acc)&&hb p b x
def tk (p:GSpots) (l:List Int):Bool:=l.any fun x=>decide (x∈p.Last)
def fA:Nat→List (List Int)→List Int→Option Nat
 | _,[],_=>none
 | k,y::t,x=>if y=x then some k else fA (k+1) t x
def fnd (s:List (List Int)) (x:List Int):Option Nat:=fA 1 s.tail x
def rowS (p:GSpots) (acc:List Int):List Nat→List (List Int)→List Bool→List Int→Option (List (List Int)× List Bool × List Int)
 | [],s,fi,r=>some (s,fi,r)
 | b::bs,s,fi,r=>match fnd s (setK p acc b) with
   | some j=>rowS p acc bs s fi (r++[(j:Int)])
   | none=>if 4096≤s.length then none else rowS p acc bs (s++[setK p acc b]) (fi++[tk p (setK p acc b)]) (r++[(s.length:Int)])
def ofS (p:GSpots) (bs:List Nat):Nat→Nat→List (List Int)→List Bool→List (List Int)→Option (Option (List (List Int)× List Bool × List (List Int)))
 | 0,_,_,_,_=>none
 | m +1,n,s,fi,nx=>match s[n]? with
   | none=>some (some (s,fi,nx))
   | some x=>match rowS p (may p n x) bs s fi [] with
     | none=>some none
     | some (s',fi',r)=>ofS p bs m (n+1) s' fi' (nx++[r])
theorem fA_ge:∀{t:List (List Int)} {k j:Nat} {x:List Int},fA k t x=some j→k≤j∧j<k+t.length∧t[j-k]?=some x
 | [],_,_,_,h=>by cases h
 | y ::t,k,j,x,h=>by
   rw [fA] at h
   split at h
   · rename_i e
     cases h
     subst e
     exact ⟨Nat.le_refl _,by simp,by simp⟩
   · obtain ⟨h1,h2,h3⟩:=fA_ge h
     refine ⟨by omega,by simp only [List.length_cons];omega,?_⟩
     rw [show j-k=(j-(k+1))+1 by omega]
     simpa using h3
theorem fA_app:∀{t:List (List Int)} {k:Nat} {x y:List Int},fA k (t++[y]) x=(match fA k t x with
 | some j=>some j
 | none=>if y=x then some (k+t.length) else none)
 | [],k,x,y=>by simp [fA]
 | z::t,k,x,y=>by
   simp only [List.cons_append,fA]
   split
   · rfl
   · rw [fA_app,List.length_cons,show k+1+t.length=k+(t.length+1) by omega]
theorem fnd_app {s:List (List Int)} (h:s≠[]) {x y:List Int}:fnd (s++[y]) x=match fnd s x with
 | some j=>some j
 | none=>if y=x then some s.length else none:=by
 cases s with
 | nil=>exact absurd rfl h
 | cons z t=>
   simp only [fnd,List.cons_append,List.tail_cons]
   rw [fA_app,List.length_cons,show 1+t.length=t.length+1 by omega]
theorem fnd_some {s:List (List Int)} {x:List Int} {j:Nat} (h:fnd s x=some j):1≤j∧j<s.length∧s[j]?=some x:=by
 cases s with
 | nil=>cases h
 | cons z t=>
   obtain ⟨h1,h2,h3⟩:=fA_ge h
   simp only [List.tail_cons] at h2 h3
   refine ⟨h1,by simp only [List.length_cons];omega,?_⟩
   obtain ⟨k,rfl⟩:∃k,j=k+1:=⟨j-1,by omega⟩
   simpa using h3
def keyL (v:List Bool):List Int:=v.map fun b=>if b=true then 1 else 0
def keyB (v:List Bool):ByteArray:=ofBytes (keyL v)
theorem keyL_ok (v:List Bool):bokB (keyL v)=true:=by
 simp only [bokB,keyL,List.all_map,List.all_eq_true,Function.comp]
 intro b _
 cases b<;>simp
theorem keyB_inj:∀{v w:List Bool},keyB v=keyB w→v=w:=fun {v w} h=>by
 have h1:(keyB v).data.toList=(keyB w).data.toList:=by rw [h]
 simp only [keyB,ofBytes,keyL,List.map_map] at h1
 have key:∀(a b:List Bool),a.map ((fun n:Int=>UInt8.ofNat n.toNat) ∘ fun b=>if b=true then 1 else 0)=b.map ((fun n:Int=>UInt8.ofNat n.toNat) ∘ fun b=>if b=true then 1 else 0)→a=b:=by
  intro a
  induction a with
  | nil=>intro b h;cases b with | nil=>rfl | cons _ _=>simp at h
  | cons x a ih=>
    intro b h
    cases b with
    | nil=>simp at h
    | cons y b=>
      simp only [List.map_cons,List.cons.injEq] at h
      rw [ih b h.2]
      have:x=y:=by
       have:=h.1
       cases x<;>cases y<;>simp_all [Function.comp]
      rw [this]
 exact key _ _ (by simpa using h1)
theorem keyB_size (v:List Bool):(keyB v).size=v.length:=by
 show (ofBytes (keyL v)).data.size=_
 simp [ofBytes,keyL]
theorem key_l {v:List Bool} (hv:v.length≤100000):∀(m i:Nat) (pre:List Int),1≤i→i≤v.length→v.length<i+m→pre=keyL (v.take i)→dfa_key_l1 v m i pre=some (keyB v):=by
 intro m
 induction m with
 | zero=>intro i pre h0 h1 h2;omega
 | succ m ih=>
   intro i pre h0 h1 h2 hp
   have hpl:pre.length=i:=by rw [hp,keyL,List.length_map,List.length_take];omega
   rw [dfa_key_l1]
   simp only [cm_lss,ll_eq,cond_dec]
   by_cases c:i<v.length
   · rw [if_pos (by omega),at_in c,Option.bind_some,inc1 (by omega)]
     have e:∀n:Int,n=(if v[i]=true then 1 else 0)→pre++[n]=keyL (v.take (i+1)):=fun n hn=>by
      have e2:v.take (i+1)=v.take i++[v[i]]:=by rw [List.take_add_one,List.getElem?_eq_getElem c];rfl
      rw [e2,hp,hn]
      simp only [keyL,List.map_append,List.map_cons,List.map_nil]
     cases hb:v[i] with
     | true=>
       rw [_root_.cond_true,app_eq (by simp;omega),Option.bind_some,Option.bind_some]
       exact ih (i+1) _ (by omega) (by omega) (by omega) (e 1 (by simp [hb]))
     | false=>
       rw [_root_.cond_false,app_eq (by simp;omega),Option.bind_some,Option.bind_some]
       exact ih (i+1) _ (by omega) (by omega) (by omega) (e 0 (by simp [hb]))
   · rw [if_neg (by omega),hp,List.take_of_length_le (by omega),strB,if_pos (keyL_ok v)]
     rfl
theorem key_p {v:List Bool} (hv:v.length≤100000) {N:Nat} (hN:v.length<N):dfa_key_g N v=some (keyB v):=by
 unfold dfa_key_g
 simp only [cm_lss,ll_eq,cond_dec]
 cases v with
 | nil=>rfl
 | cons b v=>
   have e1:ar .add .i64 0 1=((1:Nat):Int):=inc1 (i:=0) (by omega)
   rw [if_pos (by simp only [List.length_cons];omega),show at_ (b::v) 0=some b from rfl,Option.bind_some,e1]
   cases b with
   | true=>
     rw [_root_.cond_true,app_eq (by simp),Option.bind_some,Option.bind_some]
     exact key_l hv N 1 _ (by omega) (by simp) (by simp only [List.length_cons] at hN ⊢;omega) (by simp [keyL])
   | false=>
     rw [_root_.cond_false,app_eq (by simp),Option.bind_some,Option.bind_some]
     exact key_l hv N 1 _ (by omega) (by simp) (by simp only [List.length_cons] at hN ⊢;omega) (by simp [keyL])
def selB (v:List Bool):List Int:=pickL v.length fun x=>v.getD x.toNat false
theorem selB_mem {v:List Bool} {k:Nat} (h:k<v.length):(k:Int)∈selB v↔v[k]=true:=by
 rw [selB,mem_pick,Int.toNat_natCast,List.getD_eq_getElem?_getD,List.getElem?_eq_getElem h]
 simp only [Option.getD_some]
 exact ⟨fun h=>h.2,fun h2=>⟨⟨by omega,by omega⟩,h2⟩⟩
theorem selB_inj {v w:List Bool} (hl:v.length=w.length) (h:selB v=selB w):v=w:=by
 apply List.ext_getElem hl
 intro k h1 h2
 rw [Bool.eq_iff_iff,←selB_mem h1,h,selB_mem h2]
def SeenOk (M:Nat) (seen:List (ByteArray × Int)) (s:List (List Int)):Prop:=
 ∀v:List Bool,v.length=M→mfind seen (keyB v)=Option.map (fun j:Nat=>(j:Int)) (fnd s (selB v))
theorem seen_nil {M:Nat}:SeenOk M [] [[]]:=fun v _=>rfl
theorem SeenOk.add {M:Nat} {seen:List (ByteArray × Int)} {s:List (List Int)} (h:SeenOk M seen s) (hs:s≠[]) {v:List Bool} (hv:v.length=M) (hn:fnd s (selB v)=none):SeenOk M (mput seen (keyB v) s.length) (s++[selB v]):=by
 have h0:mfind seen (keyB v)=none:=by rw [h v hv,hn];rfl
 intro w hw
 rw [mput_new h0,mfind_add,h w hw,fnd_app hs]
 cases hf:fnd s (selB w) with
 | some j=>rfl
 | none=>
   simp only [Option.map_none]
   by_cases e:v=w
   · subst e;simp
   · rw [if_neg (fun h=>e (keyB_inj h)),if_neg (fun h=>e (selB_inj (hv.trans hw.symm) h))]
     rfl
theorem index_l {l:List Int} {x:Int} (hl:l.length≤100000):∀(m i:Nat),i≤l.length→l.length<i+m→∃j:Int,slices_Index_152_l1 l x m i=some j∧(0≤j↔x∈l.drop i):=by
 intro m
 induction m with
 | zero=>intro i h1 h2;omega
 | succ m ih=>
   intro i h1 h2
   rw [slices_Index_152_l1]
   simp only [cm_lss,ll_eq,cond_dec,cm_eql]
   by_cases c:i<l.length
   · rw [if_pos (by omega),at_in c,Option.bind_some,inc1 (by omega),List.drop_eq_getElem_cons c]
     by_cases e:x=l[i]
     · rw [if_pos e]
       exact ⟨i,rfl,fun _=>by rw [e];exact List.mem_cons_self,fun _=>by omega⟩
     · rw [if_neg e]
       obtain ⟨j,h3,h4⟩:=ih (i+1) (by omega) (by omega)
       exact ⟨j,h3,by rw [h4,List.mem_cons];exact ⟨.inr,fun h=>h.resolve_left e⟩⟩
   · rw [if_neg (by omega),List.drop_of_length_le (by omega)]
     exact ⟨-1,rfl,by simp⟩
theorem contains_p {l:List Int} {x:Int} (hl:l.length≤100000) {N:Nat} (hN:l.length<N):slices_Contains_150_g N l x=some (decide (x∈l)):=by
 unfold slices_Contains_150_g slices_Index_152_g
 obtain ⟨j,h1,h2⟩:=index_l (x:=x) hl N 0 (by omega) (by omega)
 have h1':slices_Index_152_l1 l x N 0=some j:=h1
 rw [h1',Option.bind_some,cm_geq]
 simp only [List.drop_zero] at h2
 simp only [h2]
variable {p:GSpots}
theorem meet_l {N:Nat} {v:List Bool} {s0:Gdfa_builder} {m3:List (ByteArray × Int)} (hv:v.length≤1000) (hl:s0.p.Last.length≤1000) (hN:5000≤N):∀(m i:Nat) (acc:List Int),i≤v.length→v.length<i+m→acc.length≤i→acc++pickF i v.length (fun x=>v.getD x.toNat false)=selB v→
 dfa_builder_meet_l1 N v s0 m3 m (tk s0.p acc) i acc=(dfa_builder_add_g (selB v) (tk s0.p (selB v)) (⟨s0.p,s0.in_,m3,s0.sets,s0.out⟩:Gdfa_builder)).bind fun a10=>some (ll (rw _ (cLs (cI .i64)) s0.out.Next),a10):=by
 intro m
 induction m with
 | zero=>intro i acc h1 h2;omega
 | succ m ih=>
   intro i acc h1 h2 h3 h4
   rw [dfa_builder_meet_l1]
   have ell:ll (rw Bool cB v)=(v.length:Int):=ll_eq
   rw [ell]
   simp only [cm_lss,cond_dec]
   by_cases c:i<v.length
   · rw [if_pos (by omega),at_in c,Option.bind_some,inc1 (by omega)]
     have hg:v.getD ((i:Int)).toNat false=v[i]:=by rw [Int.toNat_natCast,List.getD_eq_getElem?_getD,List.getElem?_eq_getElem c];rfl
     rw [pickF_s c,hg] at h4
     cases hb:v[i] with
     | true=>
       rw [hb,if_pos rfl] at h4
       have ec:(cond (tk s0.p acc) (some true) ((slices_Contains_150_g N s0.p.Last (i:Int)).bind fun a9=>some a9):Option Bool)=some (tk s0.p (acc++[(i:Int)])):=by
        rw [contains_p (by omega) (by omega)]
        simp only [tk,List.any_append,List.any_cons,List.any_nil,Bool.or_false,Option.bind_some]
        cases (acc.any fun x=>decide (x∈s0.p.Last))<;>rfl
       rw [_root_.cond_true,app_eq (by simp;omega),Option.bind_some,ec,Option.bind_some,Option.bind_some]
       exact ih (i+1) _ (by omega) (by omega) (by simp;omega) (by rw [List.append_assoc];exact h4)
     | false=>
       rw [hb,if_neg (by simp)] at h4
       rw [_root_.cond_false,Option.bind_some]
       exact ih (i+1) _ (by omega) (by omega) (by omega) h4
   · have e:i=v.length:=by omega
     subst e
     rw [pickF_e,List.append_nil] at h4
     rw [if_neg (by omega),h4]
def bld (p:GSpots) (inn:List (List Int)) (B:List Int) (seen:List (ByteArray × Int)) (s:List (List Int)) (fi:List Bool) (nx:List (List Int)):Gdfa_builder:=⟨p,inn,seen,s,⟨0,fi,B,nx⟩⟩
theorem meet_p {N:Nat} {v:List Bool} {inn:List (List Int)} {B:List Int} {seen:List (ByteArray × Int)} {s:List (List Int)} {fi:List Bool} {nx:List (List Int)} (hv:v.length≤1000) (hl:p.Last.length≤1000) (hN:5000≤N) (hs:SeenOk v.length seen s) (h0:s≠[]) (h1:s.length≤4096) (h2:fi.length=s.length) (h3:nx.length=s.length):
 match fnd s (selB v) with
 | some j=>dfa_builder_meet_g N v (bld p inn B seen s fi nx)=some ((j:Int),bld p inn B seen s fi nx)
 | none=>if 4096≤s.length then dfa_builder_meet_g N v (bld p inn B seen s fi nx)=some (-1,bld p inn B seen s fi nx)
   else ∃seen',SeenOk v.length seen' (s++[selB v])∧dfa_builder_meet_g N v (bld p inn B seen s fi nx)=some ((s.length:Int),bld p inn B seen' (s++[selB v]) (fi++[tk p (selB v)]) (nx++[[]])):=by
 have hk:dfa_key_g N v=some (keyB v):=key_p (by omega) (by omega)
 have hok:Sh.okB (Ab.Key.s (keyB v))=true:=by simp only [Sh.okB,keyB_size,decide_eq_true_eq];omega
 have hm:=hs v rfl
 have e1:ll (rw _ (cLs (cI .i64)) (bld p inn B seen s fi nx).out.Next)=(s.length:Int):=by rw [ll_eq];show (nx.length:Int)=_;omega
 unfold dfa_builder_meet_g
 rw [hk]
 simp only [Option.bind_some,mgt,mpt,hok,if_true]
 rw [show (bld p inn B seen s fi nx).seen=seen from rfl,hm]
 cases hf:fnd s (selB v) with
 | some j=>rfl
 | none=>
   simp only [Option.map_none]
   rw [e1,cm_eql,cond_dec]
   by_cases g:4096≤s.length
   · rw [if_pos g,if_pos (by omega)]
   · rw [if_neg g,if_neg (by omega)]
     refine ⟨mput seen (keyB v) s.length,hs.add h0 rfl hf,?_⟩
     have hm1:=meet_l (N:=N) (v:=v) (s0:=bld p inn B seen s fi nx) (m3:=mput seen (keyB v) s.length) hv hl hN N 0 [] (by omega) (by omega) (by simp) rfl
     have hm2:dfa_builder_meet_l1 N v (bld p inn B seen s fi nx) (mput seen (keyB v) s.length) N false 0 []=_:=hm1
     rw [hm2,e1]
     unfold dfa_builder_add_g
     rw [app_eq (by simp [bld];omega),Option.bind_some,app_eq (by simp [bld];omega),Option.bind_some,app_eq (by simp [bld];omega),Option.bind_some]
     rfl
end Dq
end Go.Proofs.YtjhbgkakhaonaaaGreatDoor
namespace Go.Proofs.YtjhbgkakhaonaaaGreatDoor
open Go
open Sh Gn
open Pl (pickL mem_pick pick_congr pick_len pickF pickF_0 pickF_s pickF_e Fit Low nextOf Mk mk_0 mk_at mk_set Can can_nil in_p join_p rs rs_in okB fit_pick)
namespace Dq
variable {p:GSpots}
theorem mk_sel {M:Nat} {v:List Bool} {acc:List Int} (h:Mk M v acc):selB v=pickL M fun x=>decide (x∈acc):=by
 unfold selB
 rw [h.1]
 refine pick_congr fun x h0 h1=>?_
 obtain ⟨k,rfl⟩:=Int.eq_ofNat_of_zero_le h0
 rw [Int.toNat_natCast,List.getD_eq_getElem?_getD,h.2 k (by omega)]
 rfl
theorem step_l2 {s0:Gdfa_builder} (hf:Fit s0.p s0.p.First):∀(m i:Nat) (v:List Bool) (acc:List Int),i≤s0.p.First.length→s0.p.First.length<i+m→Mk s0.p.Sets.length v acc→
 ∃v',Mk s0.p.Sets.length v' (acc++s0.p.First.drop i)∧dfa_builder_step_l2 s0 m i v=some v':=by
 have h200:=hf.1
 intro m
 induction m with
 | zero=>intro i v acc h1 h2;omega
 | succ m ih=>
   intro i v acc h1 h2 hv
   rw [dfa_builder_step_l2]
   simp only [cm_lss,ll_eq,cond_dec]
   by_cases c:i<s0.p.First.length
   · have hx:=hf.2 _ (List.getElem_mem c)
     rw [if_pos (by omega),at_in c,Option.bind_some,mk_at hv hx,Option.bind_some,Option.bind_some,put,inc1 (by omega)]
     obtain ⟨v',h3,h4⟩:=ih (i+1) _ _ (by omega) (by omega) (mk_set hv hx)
     refine ⟨v',?_,h4⟩
     rw [List.drop_eq_getElem_cons c,←List.append_cons] at *
     exact h3
   · rw [if_neg (by omega),List.drop_of_length_le (by omega),List.append_nil]
     exact ⟨v,hv,rfl⟩
theorem step_l5 {k3:Int→List Bool→Option (Bool × Gdfa_builder)} {v10:Int} {r:List Int} (hr:Fit p r):∀(m i:Nat) (v:List Bool) (acc:List Int),i≤r.length→r.length<i+m→Mk p.Sets.length v acc→
 ∃v',Mk p.Sets.length v' (acc++r.drop i)∧dfa_builder_step_l5 k3 v10 r m i v=k3 (ar .add .i64 v10 1) v':=by
 have h200:=hr.1
 intro m
 induction m with
 | zero=>intro i v acc h1 h2;omega
 | succ m ih=>
   intro i v acc h1 h2 hv
   rw [dfa_builder_step_l5]
   simp only [cm_lss,ll_eq,cond_dec]
   by_cases c:i<r.length
   · have hx:=hr.2 _ (List.getElem_mem c)
     rw [if_pos (by omega),at_in c,Option.bind_some,mk_at hv hx,Option.bind_some,Option.bind_some,put,inc1 (by omega)]
     obtain ⟨v',h3,h4⟩:=ih (i+1) _ _ (by omega) (by omega) (mk_set hv hx)
     refine ⟨v',?_,h4⟩
     rw [List.drop_eq_getElem_cons c,List.append_cons]
     exact h3
   · rw [if_neg (by omega),List.drop_of_length_le (by omega),List.append_nil]
     exact ⟨v,hv,rfl⟩
theorem mk_val {M:Nat} {v:List Bool} {acc:List Int} (h:Mk M v acc) {x:Int} (hx:0≤x∧x<M) {all:List Int} (b:Bool) (hb:b=decide (x∈all)) (hsub:∀y∈acc,y∈all):Mk M (v.set x.toNat b) (acc++if x∈all then [x] else []):=by
 cases b with
 | true=>
   rw [if_pos (of_decide_eq_true hb.symm)]
   exact mk_set h hx
 | false=>
   have hn:x∉all:=of_decide_eq_false hb.symm
   rw [if_neg hn,List.append_nil]
   refine ⟨by rw [List.length_set];exact h.1,fun k hk=>?_⟩
   by_cases e:x.toNat=k
   · rw [e,List.getElem?_set_self (by rw [h.1];exact hk)]
     congr 1
     rw [eq_comm,decide_eq_false_iff_not]
     intro hm
     exact hn (by have:=hsub _ hm;rwa [show ((k:Int))=x by omega] at this)
   · rw [List.getElem?_set_ne e]
     exact h.2 k hk
structure Bs (p:GSpots) (seen:List (ByteArray × Int)) (s:List (List Int)) (fi:List Bool) (nx:List (List Int)):Prop where
 seen:SeenOk p.Sets.length seen s
 ne:s≠[]
 le:s.length≤4096
 fin:fi.length=s.length
 nx:nx.length=s.length
def inK (p:GSpots) (b:Nat):List Int:=pickL p.Sets.length (hb p b)
theorem step_l7 {N:Nat} {k6:Int→List CSet→Bool→List Int→List Int→List (List Int)→List (List Int)→Int→List Int→List (ByteArray × Int)→List (List Int)→List Bool→List (List Int)→List Int→Option (Bool × Gdfa_builder)} {k:Nat} {inn:List (List Int)} {B:List Int}
 {seen:List (ByteArray × Int)} {s:List (List Int)} {fi:List Bool} {nx:List (List Int)} {row:List Int} {v11:List Bool} {acc:List Int} {b:Nat} (hp:Low p) (hlast:p.Last.length≤1000) (hN:5000≤N) (hB:Bs p seen s fi nx) (hv:Mk p.Sets.length v11 acc) (hk:k<row.length) (hk2:row.length≤1000):∀(m i:Nat) (v:List Bool) (acc':List Int),i≤(inK p b).length→(inK p b).length<i+m→
 Mk p.Sets.length v acc'→(∀y∈acc',y∈acc)→(∀x:Int,x∈acc'++((inK p b).drop i).filter (fun x=>decide (x∈acc))↔x∈setK p acc b)→
 match fnd s (setK p acc b) with
 | some j=>dfa_builder_step_l7 N k6 k p.First (inK p b) p.Last p.Sets p.None p.Next inn 0 B seen s fi nx row v11 m i v=k6 ((k+1:Nat):Int) p.Sets p.None p.First p.Last p.Next inn 0 B seen s fi nx (row.set k (j:Int))
 | none=>if 4096≤s.length then ∃d,dfa_builder_step_l7 N k6 k p.First (inK p b) p.Last p.Sets p.None p.Next inn 0 B seen s fi nx row v11 m i v=some (false,d)
   else ∃seen',Bs p seen' (s++[setK p acc b]) (fi++[tk p (setK p acc b)]) (nx++[[]])∧dfa_builder_step_l7 N k6 k p.First (inK p b) p.Last p.Sets p.None p.Next inn 0 B seen s fi nx row v11 m i v=
    k6 ((k+1:Nat):Int) p.Sets p.None p.First p.Last p.Next inn 0 B seen' (s++[setK p acc b]) (fi++[tk p (setK p acc b)]) (nx++[[]]) (row.set k (s.length:Int)):=by
 have hM:=hp.sets
 have hl:(inK p b).length≤p.Sets.length:=pick_len
 intro m
 induction m with
 | zero=>intro i v acc' h1 h2;omega
 | succ m ih=>
   intro i v acc' h1 h2 hm hsub hset
   rw [dfa_builder_step_l7]
   simp only [cm_lss,ll_eq,cond_dec]
   by_cases c:i<(inK p b).length
   · have hx:0≤(inK p b)[i]∧(inK p b)[i]<p.Sets.length:=(mem_pick.1 (List.getElem_mem c)).1
     simp only [show (i:Int)<((inK p b).length:Int) by omega,if_true,at_in c,Option.bind_some,mk_at hv hx,mk_at hm hx,put,inc1 (show i≤100000000 by omega)]
     refine ih (i+1) _ _ (by omega) (by omega) (mk_val hm hx (all:=acc) _ rfl hsub) (fun y hy=>?_) fun x=>?_
     · rcases List.mem_append.1 hy with h | h
       · exact hsub y h
       · split at h
         · rw [List.mem_singleton] at h;subst h;assumption
         · cases h
     · rw [←hset x,List.drop_eq_getElem_cons c,List.filter_cons]
       by_cases e:(inK p b)[i]∈acc
       · simp [e,List.append_assoc]
       · simp [e]
   · have e0:¬(i:Int)<((inK p b).length:Int):=by omega
     have hd:(inK p b).drop i=[]:=List.drop_of_length_le (by omega)
     rw [hd,List.filter_nil,List.append_nil] at hset
     have hsel:selB v=setK p acc b:=by
      rw [mk_sel hm]
      refine pick_congr fun x h0 h1=>?_
      rw [Bool.eq_iff_iff,decide_eq_true_eq,hset x,setK,mem_pick]
      exact ⟨fun h=>h.2,fun h=>⟨⟨h0,h1⟩,h⟩⟩
     have hseen:SeenOk v.length seen s:=by rw [hm.1];exact hB.seen
     have hmt:=meet_p (p:=p) (N:=N) (v:=v) (inn:=inn) (B:=B) (nx:=nx) (fi:=fi) (by rw [hm.1];omega) hlast hN hseen hB.ne hB.le hB.fin hB.nx
     rw [hsel] at hmt
     simp only [e0,if_false]
     have hbd:(⟨(⟨p.Sets,p.None,p.First,p.Last,p.Next⟩:GSpots),inn,seen,s,(⟨0,fi,B,nx⟩:GDfa)⟩:Gdfa_builder)=bld p inn B seen s fi nx:=rfl
     rw [hbd]
     have hrow:at_ row (k:Int)=some (row[k]):=at_in hk
     have hset2:∀n:Int,at_ (row.set k n) (k:Int)=some n:=fun n=>by rw [at_nat,List.getElem?_set_self hk]
     cases hf:fnd s (setK p acc b) with
     | some j=>
       rw [hf] at hmt
       simp only at hmt ⊢
       have hj:=fnd_some hf
       simp only [hmt,Option.bind_some,hrow,put,Int.toNat_natCast,hset2,show ¬((j:Int)<0) by omega,if_false,inc1 (show k≤100000000 by omega)]
       rfl
     | none=>
       rw [hf] at hmt
       simp only at hmt ⊢
       by_cases g:4096≤s.length
       · rw [if_pos g] at hmt ⊢
         refine ⟨bld p inn B seen s fi nx,?_⟩
         simp only [hmt,Option.bind_some,hrow,put,Int.toNat_natCast,hset2,show ((-1:Int)<0) by omega,if_true]
       · rw [if_neg g] at hmt ⊢
         obtain ⟨seen',q1,q2⟩:=hmt
         refine ⟨seen',⟨by rw [←hm.1];exact q1,by simp,by simp;omega,by simp [hB.fin],by simp [hB.nx]⟩,?_⟩
         simp only [q2,Option.bind_some,hrow,put,Int.toNat_natCast,hset2,show ¬((s.length:Int)<0) by omega,if_false,inc1 (show k≤100000000 by omega)]
         rfl
end Dq
end Go.Proofs.YtjhbgkakhaonaaaGreatDoor
