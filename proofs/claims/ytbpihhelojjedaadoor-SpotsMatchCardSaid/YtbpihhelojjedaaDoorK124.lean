/- Texts that the proof leans on. -/
import Derived.Test.YtbpihhelojjedaaDoorK123
set_option linter.unusedVariables false
set_option linter.unusedSimpArgs false
set_option maxRecDepth 100000
set_option maxHeartbeats 4000000
namespace Go.Proofs.YtbpihhelojjedaaDoor
open Go
open Sh Gn
namespace Pl
def pickL (many:Nat) (f:Int→Bool):List Int:=((List.range many).map Int.ofNat).filter f
theorem mem_pick {many:Nat} {f:Int→Bool} {x:Int}:x∈pickL many f↔(0≤x∧x<many)∧f x=true:=by
 unfold pickL
 rw [List.mem_filter,List.mem_map]
 constructor
 · rintro ⟨⟨n,hn,rfl⟩,h⟩
   have:=List.mem_range.1 hn
   exact ⟨⟨by simp,by simpa using this⟩,h⟩
 · rintro ⟨⟨h1,h2⟩,h⟩
   exact ⟨⟨x.toNat,List.mem_range.2 (by omega),by simp;omega⟩,h⟩
theorem pick_congr {many:Nat} {f g:Int→Bool} (h:∀x:Int,0≤x→x<(many:Int)→f x=g x):pickL many f=pickL many g:=by
 unfold pickL
 refine List.filter_congr fun x hx=>?_
 obtain ⟨n,hn,rfl⟩:=List.mem_map.1 hx
 have:=List.mem_range.1 hn
 exact h _ (by simp) (by simpa using this)
theorem pick_len {many:Nat} {f:Int→Bool}:(pickL many f).length≤many:=by
 unfold pickL
 refine Nat.le_trans (List.length_filter_le _ _) ?_
 simp
def pickF (i many:Nat) (f:Int→Bool):List Int:=(((List.range many).drop i).map Int.ofNat).filter f
theorem pickF_0 {many:Nat} {f:Int→Bool}:pickF 0 many f=pickL many f:=rfl
theorem pickF_s {i many:Nat} {f:Int→Bool} (h:i<many):pickF i many f=if f i then (i:Int)::pickF (i+1) many f else pickF (i+1) many f:=by
 unfold pickF
 rw [List.drop_eq_getElem_cons (by simpa using h),List.map_cons,List.filter_cons,List.getElem_range]
 rfl
theorem pickF_e {many:Nat} {f:Int→Bool}:pickF many many f=[]:=by
 unfold pickF
 rw [List.drop_of_length_le (by simp)]
 rfl
theorem in_l (l:List Int) (x:Int) (hl:l.length≤1000000):∀(m i:Nat),i≤l.length→l.length<i+m→r16_in_l1 l x m i=some (decide (x∈l.drop i)):=by
 intro m
 induction m with
 | zero=>intro i h1 h2;omega
 | succ m ih=>
   intro i h1 h2
   rw [r16_in_l1]
   simp only [cm_lss,ll_eq,cond_dec,cm_eql]
   by_cases c:i<l.length
   · rw [if_pos (by omega),at_in c,List.drop_eq_getElem_cons c]
     simp only [Option.bind_some,inc1 (show i≤100000000 by omega)]
     by_cases e:l[i]=x
     · rw [if_pos e,decide_eq_true (by rw [e];exact List.mem_cons_self)]
     · rw [if_neg e,ih (i+1) (by omega) (by omega)]
       congr 1
       rw [decide_eq_decide,List.mem_cons]
       exact ⟨.inr,fun h=>h.resolve_left (fun h=>e h.symm)⟩
   · rw [if_neg (by omega),List.drop_of_length_le (by omega)]
     rfl
theorem in_p {N:Nat} {l:List Int} {x:Int} (h:l.length<N) (h2:l.length≤1000000):r16_in_g N l x=some (decide (x∈l)):=in_l l x h2 N 0 (by omega) (by omega)
theorem join_l {N:Nat} {a b:List Int} {many:Nat} (ha:a.length<N) (ha2:a.length≤1000000) (hb:b.length<N) (hb2:b.length≤1000000) (hm:many≤1000000):∀(m i:Nat) (acc:List Int),i≤many→many<i+m→acc.length≤i→r16_Join_l1 N a b many m i acc=some (acc++pickF i many fun n=>decide (n∈a)||decide (n∈b)):=by
 intro m
 induction m with
 | zero=>intro i acc h1 h2;omega
 | succ m ih=>
   intro i acc h1 h2 h3
   rw [r16_Join_l1]
   simp only [cm_lss,cond_dec,in_p ha ha2,in_p hb hb2,Option.bind_some]
   by_cases c:i<many
   · rw [if_pos (by omega),pickF_s c,inc1 (by omega)]
     by_cases e:(i:Int)∈a
     · simp only [e,if_true,Option.bind_some,_root_.cond_true,decide_true,Bool.true_or,app_eq (show acc.length+[(i:Int)].length≤1000000000 by simp;omega)]
       rw [ih (i+1) _ (by omega) (by omega) (by simp;omega)]
       simp
     · by_cases e2:(i:Int)∈b
       · simp only [e,e2,if_true,if_false,Option.bind_some,_root_.cond_true,decide_true,decide_false,Bool.or_true,app_eq (show acc.length+[(i:Int)].length≤1000000000 by simp;omega)]
         rw [ih (i+1) _ (by omega) (by omega) (by simp;omega)]
         simp
       · simp only [e,e2,if_false,Option.bind_some,_root_.cond_false,decide_false,Bool.or_false,Bool.false_eq_true]
         exact ih (i+1) _ (by omega) (by omega) (by omega)
   · rw [if_neg (by omega),show i=many by omega,pickF_e,List.append_nil]
theorem join_p {N:Nat} {a b:List Int} {many:Nat} (ha:a.length<N) (ha2:a.length≤1000000) (hb:b.length<N) (hb2:b.length≤1000000) (hm:many≤1000000) (hN:many<N):r16_Join_g N a b many=some (pickL many fun n=>decide (n∈a)||decide (n∈b)):=by
 unfold r16_Join_g
 have h:r16_Join_l1 N a b many N 0 []=_:=join_l ha ha2 hb hb2 hm N 0 [] (by omega) (by omega) (by simp)
 rw [h,List.nil_append,pickF_0]
def nextOf (p:GSpots) (k:Int):List Int:=p.Next.getD k.toNat []
def hasB (p:GSpots) (c:UInt8) (k:Int):Bool:=match p.Sets[k.toNat]? with
 | some S=>S.has c.toNat
 | none=>false
def nowL (p:GSpots) (c:UInt8) (l:List Int):List Int:=l.filter (hasB p c)
def stepL (p:GSpots) (l:List Int):List Int:=pickL p.Sets.length fun n=>decide (n∈l.flatMap (nextOf p))
def runL (p:GSpots):List UInt8→List Int→List Int→List Int
 | [],_,now=>now
 | c::s,l,_=>runL p s (stepL p (nowL p c l)) (nowL p c l)
def matchB (p:GSpots) (s:ByteArray):Bool:=if okB p then (if s=ByteArray.empty then p.None else (runL p s.data.toList p.First []).any fun k=>decide (k∈p.Last)) else false
def Fit (p:GSpots) (l:List Int):Prop:=l.length≤40∧∀x∈l,0≤x∧x<(p.Sets.length:Int)
variable {p:GSpots}
structure Ok (p:GSpots):Prop where
 low:Low p
 len:p.Next.length=p.Sets.length
 first:Fit p p.First
 last:Fit p p.Last
 each:∀l∈p.Next,Fit p l
theorem ok_of (hp:Low p) (h:okB p=true):Ok p:=by
 unfold okB at h
 simp only [Bool.and_eq_true,decide_eq_true_eq,List.all_eq_true] at h
 obtain ⟨-,h1,h2,h3,h4⟩:=h
 exact ⟨hp,by omega,⟨hp.first,fun x hx=>rs_in h2 (by omega) x hx⟩,⟨hp.last,fun x hx=>rs_in h3 (by omega) x hx⟩,fun l hl=>⟨hp.each l hl,fun x hx=>rs_in (h4 l hl) (by omega) x hx⟩⟩
theorem Ok.next_at (hp:Ok p) {k:Int} (h:0≤k∧k<p.Sets.length):at_ p.Next k=some (nextOf p k)∧Fit p (nextOf p k):=by
 have hl:=hp.len
 obtain ⟨y,h1,h2⟩:=at_int (l:=p.Next) (x:=k) h.1 (by omega)
 have e:nextOf p k=y:=by unfold nextOf;rw [List.getD_eq_getElem?_getD,h2];rfl
 rw [e]
 exact ⟨h1,hp.each _ (List.mem_of_getElem? h2)⟩
theorem set_at {k:Int} (h:0≤k∧k<p.Sets.length) (c:UInt8):∃S,at_ p.Sets k=some S∧hasB p c k=S.has c.toNat:=by
 obtain ⟨y,h1,h2⟩:=at_int (l:=p.Sets) (x:=k) h.1 (by omega)
 exact ⟨y,h1,by unfold hasB;rw [h2]⟩
theorem fit_now {c:UInt8} {l:List Int} (h:Fit p l):Fit p (nowL p c l):=⟨Nat.le_trans (List.length_filter_le _ _) h.1,fun x hx=>h.2 x (List.mem_filter.1 hx).1⟩
theorem fit_pick (hp:Low p) {f:Int→Bool}:Fit p (pickL p.Sets.length f):=by
 have:=hp.sets
 exact ⟨Nat.le_trans pick_len (by omega),fun x hx=>(mem_pick.1 hx).1⟩
def Mk (many:Nat) (b:List Bool) (acc:List Int):Prop:=b.length=many∧∀k:Nat,k<many→b[k]?=some (decide ((k:Int)∈acc))
theorem mk_0 {many:Nat}:Mk many (List.replicate many false) []:=⟨by simp,fun k hk=>by rw [List.getElem?_replicate,if_pos hk];simp⟩
theorem mk_at {many:Nat} {b:List Bool} {acc:List Int} (h:Mk many b acc) {x:Int} (hx:0≤x∧x<many):at_ b x=some (decide (x∈acc)):=by
 obtain ⟨k,rfl⟩:=Int.eq_ofNat_of_zero_le hx.1
 rw [at_nat]
 exact h.2 k (by omega)
theorem mk_set {many:Nat} {b:List Bool} {acc:List Int} (h:Mk many b acc) {x:Int} (hx:0≤x∧x<many):Mk many (b.set x.toNat true) (acc++[x]):=by
 refine ⟨by rw [List.length_set];exact h.1,fun k hk=>?_⟩
 by_cases e:x.toNat=k
 · rw [e,List.getElem?_set_self (by rw [h.1];exact hk),decide_eq_true]
   rw [List.mem_append];right
   rw [List.mem_singleton];omega
 · rw [List.getElem?_set_ne e,h.2 k hk]
   congr 1
   rw [decide_eq_decide,List.mem_append,List.mem_singleton]
   exact ⟨.inl,fun h=>h.resolve_right (by omega)⟩
theorem sa_at {s:ByteArray} {i:Nat} (h:i<s.data.toList.length):sinB s (i:Int)=true∧sa s (i:Int)=(s.data.toList[i].toNat:Int):=by
 have h':i<s.size:=by simpa using h
 refine ⟨by simp [sinB,h'],?_⟩
 show ((s.data.getD _ 0).toNat:Int)=_
 rw [Int.toNat_natCast,Array.getD_eq_getD_getElem?,Array.getElem?_eq_getElem (by simpa using h)]
 rfl
theorem has_p {S:CSet} {c:UInt8}:charset_Has_g S (c.toNat:Int)=some (S.has c.toNat):=by
 unfold charset_Has_g
 have:=c.toNat_lt
 rw [if_pos (by omega)];rfl
theorem rhas_p {S:CSet} {c:UInt8}:r12_Has_g S (cv .i64 (c.toNat:Int))=some (S.has c.toNat):=by
 unfold r12_Has_g
 have:=c.toNat_lt
 rw [cv_i64 (by omega) (by omega),if_pos (by omega)];rfl
def Can (p:GSpots) (l:List Int):Prop:=l=pickL p.Sets.length fun n=>decide (n∈l)
theorem can_pick {f:Int→Bool}:Can p (pickL p.Sets.length f):=by
 unfold Can
 refine pick_congr fun x h0 h1=>?_
 rw [eq_comm,Bool.eq_iff_iff,decide_eq_true_eq,mem_pick]
 exact ⟨fun h=>h.2,fun h=>⟨⟨h0,h1⟩,h⟩⟩
theorem can_nil:Can p []:=by
 unfold Can pickL
 rw [eq_comm,List.filter_eq_nil_iff]
 intro a _;simp
theorem rl3 (hp:Ok p) {N:Nat} (hN:50≤N) (k1:List Int→Int→List Int→Option Bool) (v3:Int) {now:List Int} (hn:Fit p now):∀(m j:Nat) (may:List Int),j≤now.length→now.length<j+m→Fit p may→Can p may→
 r16_Match_l3 N k1 p v3 now m may j=k1 (pickL p.Sets.length fun n=>decide (n∈may)||decide (n∈(now.drop j).flatMap (nextOf p))) (ar .add .i64 v3 1) now:=by
 intro m
 induction m with
 | zero=>intro j may h1 h2;omega
 | succ m ih=>
   intro j may h1 h2 hf hc
   have hs:=hp.low.sets
   have hnl:=hn.1
   rw [r16_Match_l3]
   simp only [cm_lss,ll_eq,cond_dec]
   by_cases c:j<now.length
   · obtain ⟨h5,h6⟩:=hp.next_at (hn.2 _ (List.getElem_mem c))
     have h7:=hf.1
     have h8:=h6.1
     rw [if_pos (by omega),at_in c]
     simp only [Option.bind_some,h5,join_p (N:=N) (a:=may) (b:=nextOf p now[j]) (many:=p.Sets.length) (by omega) (by omega) (by omega) (by omega) (by omega) (by omega),inc1 (show j≤100000000 by omega)]
     rw [ih (j+1) _ (by omega) (by omega) (fit_pick hp.low) can_pick]
     congr 1
     refine pick_congr fun x h0 h1=>?_
     rw [List.drop_eq_getElem_cons c,List.flatMap_cons,Bool.eq_iff_iff]
     simp only [Bool.or_eq_true,decide_eq_true_eq,List.mem_append,mem_pick]
     constructor
     · rintro (⟨-,h | h⟩ | h)
       · exact .inl h
       · exact .inr (.inl h)
       · exact .inr (.inr h)
     · rintro (h | h | h)
       · exact .inl ⟨⟨h0,h1⟩,.inl h⟩
       · exact .inl ⟨⟨h0,h1⟩,.inr h⟩
       · exact .inr h
   · rw [if_neg (by omega),List.drop_of_length_le (by omega)]
     congr 1
     rw [List.flatMap_nil]
     refine hc.trans (pick_congr fun x _ _=>?_)
     simp
theorem rl2 (hp:Ok p) {N:Nat} (hN:50≤N) (k1:List Int→Int→List Int→Option Bool) {s:ByteArray} {i:Nat} (hi:i<s.data.toList.length) {may:List Int} (hm:Fit p may):∀(m j:Nat) (now:List Int),j≤may.length→may.length<j+m→now.length≤j→
 r16_Match_l2 N k1 p s may i m j now=r16_Match_l3 N k1 p i (now++nowL p s.data.toList[i] (may.drop j)) N [] 0:=by
 intro m
 induction m with
 | zero=>intro j now h1 h2;omega
 | succ m ih=>
   intro j now h1 h2 h3
   have hml:=hm.1
   obtain ⟨g1,g2⟩:=sa_at hi
   rw [r16_Match_l2]
   simp only [cm_lss,ll_eq,cond_dec]
   by_cases c:j<may.length
   · obtain ⟨S,h5,h6⟩:=set_at (hm.2 _ (List.getElem_mem c)) s.data.toList[i]
     rw [if_pos (by omega),at_in c]
     simp only [Option.bind_some,h5,g1,g2,_root_.cond_true,rhas_p,inc1 (show j≤100000000 by omega)]
     rw [List.drop_eq_getElem_cons c]
     unfold nowL
     rw [List.filter_cons,h6]
     cases hS:S.has (s.data.toList[i]).toNat with
     | true=>
       simp only [_root_.cond_true,if_true,app_eq (show now.length+[may[j]].length≤1000000000 by simp;omega),Option.bind_some]
       rw [ih (j+1) _ (by omega) (by omega) (by simp;omega)]
       unfold nowL
       simp
     | false=>
       simp only [_root_.cond_false,Bool.false_eq_true,if_false,Option.bind_some]
       exact ih (j+1) _ (by omega) (by omega) (by omega)
   · rw [if_neg (by omega),List.drop_of_length_le (by omega)]
     simp [nowL]
theorem rl4 (hp:Ok p) {N:Nat} (hN:50≤N) {now:List Int} (hn:Fit p now):∀(m j:Nat),j≤now.length→now.length<j+m→r16_Match_l4 N p now m j=some ((now.drop j).any fun k=>decide (k∈p.Last)):=by
 intro m
 induction m with
 | zero=>intro j h1 h2;omega
 | succ m ih=>
   intro j h1 h2
   have hnl:=hn.1
   have hl:=hp.low.last
   rw [r16_Match_l4]
   simp only [cm_lss,ll_eq,cond_dec]
   by_cases c:j<now.length
   · rw [if_pos (by omega),at_in c,List.drop_eq_getElem_cons c,List.any_cons]
     simp only [Option.bind_some,in_p (N:=N) (l:=p.Last) (by omega) (by omega),inc1 (show j≤100000000 by omega),cond_dec]
     by_cases e:now[j]∈p.Last
     · simp only [e,if_true,decide_true,Bool.true_or]
     · simp only [e,if_false,decide_false,Bool.false_or]
       exact ih (j+1) (by omega) (by omega)
   · rw [if_neg (by omega),List.drop_of_length_le (by omega)]
     rfl
theorem rl1 (hp:Ok p) {N:Nat} (hN:50≤N) {s:ByteArray} (hs:s.data.toList.length≤20):∀(m i:Nat) (may now:List Int),i≤s.data.toList.length→s.data.toList.length<i+m→Fit p may→Fit p now→r16_Match_l1 N p s m may i now=some ((runL p (s.data.toList.drop i) may now).any fun k=>decide (k∈p.Last)):=by
 intro m
 induction m with
 | zero=>intro i may now h1 h2;omega
 | succ m ih=>
   intro i may now h1 h2 hm hn
   have hml:=hm.1
   have hnl:=hn.1
   have hz:s.size=s.data.toList.length:=by simp
   rw [r16_Match_l1]
   simp only [cm_lss,sl_eq,cond_dec,hz]
   by_cases c:i<s.data.toList.length
   · rw [if_pos (by omega),List.drop_eq_getElem_cons c,runL]
     have e2:r16_Match_l2 N (r16_Match_l1 N p s m) p s may i N 0 []=_:=rl2 hp hN (r16_Match_l1 N p s m) c hm N 0 [] (by omega) (by omega) (by simp)
     have hn2:=fit_now (c:=s.data.toList[i]) hm
     have hn2l:=hn2.1
     simp only [List.drop_zero,List.nil_append] at e2
     rw [e2]
     have e3:r16_Match_l3 N (r16_Match_l1 N p s m) p i (nowL p s.data.toList[i] may) N [] 0=_:=rl3 hp hN (r16_Match_l1 N p s m) i hn2 N 0 [] (by omega) (by omega) ⟨by simp,fun x h=>by cases h⟩ can_nil
     simp only [List.drop_zero] at e3
     rw [e3,inc1 (by omega)]
     have e4:(pickL p.Sets.length fun n=>decide (n∈([]:List Int))||decide (n∈(nowL p s.data.toList[i] may).flatMap (nextOf p)))=stepL p (nowL p s.data.toList[i] may):=pick_congr fun x _ _=>by simp
     rw [e4]
     exact ih (i+1) _ _ (by omega) (by omega) (fit_pick hp.low) hn2
   · rw [if_neg (by omega),List.drop_of_length_le (by omega),runL]
     have:=rl4 hp hN hn N 0 (by omega) (by omega)
     simpa using this
theorem rmatch_p (hp:Low p) {N:Nat} (hN:50≤N) {s:ByteArray} (hs:s.data.toList.length≤20):r16_Match_g N p s=some (matchB p s):=by
 unfold r16_Match_g matchB
 rw [rright_p hp hN]
 simp only [Option.bind_some,cond_not,sc_eql,cond_dec]
 cases h:okB p with
 | false=>simp
 | true=>
   have hk:=ok_of hp h
   simp only [_root_.cond_true,if_true]
   by_cases e:s=ByteArray.empty
   · rw [if_pos e,if_pos e]
   · rw [if_neg e,if_neg e]
     have:=rl1 hk hN hs N 0 p.First [] (by omega) (by omega) hk.first ⟨by simp,fun x h=>by cases h⟩
     simpa using this
end Pl
end Go.Proofs.YtbpihhelojjedaaDoor
namespace Go.Proofs.YtbpihhelojjedaaDoor
open Go
open Sh Gn
namespace Pl
variable {p:GSpots}
theorem l13_eq (b:List Bool):∀(m:Nat) (i:Int),spots_Match_l13 p b m i=spots_Match_l5 p b m i:=by
 intro m;induction m with
 | zero=>intro i;rfl
 | succ m ih=>intro i;rw [spots_Match_l13,spots_Match_l5];simp only [ih]
theorem l16_eq (k:Int→List Bool→Option Bool) (v:Int) (r:List Int):∀(m:Nat) (i:Int) (b:List Bool),spots_Match_l8 k v r m i b=spots_Match_l16 k r v m i b:=by
 intro m;induction m with
 | zero=>intro i b;rfl
 | succ m ih=>intro i b;rw [spots_Match_l8,spots_Match_l16];simp only [ih]
theorem l17_eq (N:Nat) (s:ByteArray) (some_ now:List Bool):∀(m:Nat) (i:Int) (l:List Int),spots_Match_l9 N p s some_ now m i l=spots_Match_l17 (spots_Match_l1 N p s N) 0 now some_ m i l:=by
 intro m;induction m with
 | zero=>intro i l;rfl
 | succ m ih=>intro i l;rw [spots_Match_l9,spots_Match_l17];simp only [ih]
theorem l15_eq (N:Nat) (s:ByteArray) (th:List Int) (now:List Bool):∀(m:Nat) (i:Int) (b:List Bool),spots_Match_l7 N p s th now m i b=spots_Match_l15 N (spots_Match_l1 N p s N) p 0 now th m i b:=by
 intro m;induction m with
 | zero=>intro i l;rfl
 | succ m ih=>
   intro i b
   have e:spots_Match_l7 N p s th now m=spots_Match_l15 N (spots_Match_l1 N p s N) p 0 now th m:=by funext i b;exact ih i b
   rw [spots_Match_l7,spots_Match_l15];simp only [e,l16_eq,l17_eq]
theorem l10_eq (N:Nat) (s:ByteArray):∀(m:Nat) (i:Int) (b:List Bool) (l:List Int),spots_Match_l2 N p s m i b l=spots_Match_l10 N (spots_Match_l1 N p s N) p s p.First 0 m i b l:=by
 intro m;induction m with
 | zero=>intro i b l;rfl
 | succ m ih=>intro i b l;rw [spots_Match_l2,spots_Match_l10];simp only [ih,l15_eq,l13_eq];(generalize at_ p.First i=o;cases o<;>rfl)
theorem pl5 (hp:Ok p) {b:List Bool} {acc:List Int} (hb:Mk p.Sets.length b acc):∀(m j:Nat),j≤p.Last.length→p.Last.length<j+m→spots_Match_l5 p b m j=some ((p.Last.drop j).any fun k=>decide (k∈acc)):=by
 intro m
 induction m with
 | zero=>intro j h1 h2;omega
 | succ m ih=>
   intro j h1 h2
   have hl:=hp.low.last
   rw [spots_Match_l5]
   simp only [cm_lss,ll_eq,cond_dec,cm_geq]
   by_cases c:j<p.Last.length
   · have hx:=hp.last.2 _ (List.getElem_mem c)
     rw [if_pos (by omega),at_in c,List.drop_eq_getElem_cons c,List.any_cons]
     simp only [Option.bind_some,mk_at hb hx,inc1 (show j≤100000000 by omega),cond_dec]
     by_cases e:p.Last[j]∈acc
     · have:(0:Int)≤j:=by omega
       simp only [e,this,if_true,decide_true,Bool.true_or]
     · simp only [e,if_false,decide_false,Bool.false_or]
       exact ih (j+1) (by omega) (by omega)
   · rw [if_neg (by omega),List.drop_of_length_le (by omega)]
     rfl
theorem pl16 (hp:Ok p) (k:Int→List Bool→Option Bool) (v:Int) {r:List Int} (hr:Fit p r):∀(m j:Nat) (b:List Bool) (acc:List Int),j≤r.length→r.length<j+m→Mk p.Sets.length b acc→∃b',Mk p.Sets.length b' (acc++r.drop j)∧spots_Match_l16 k r v m j b=k (ar .add .i64 v 1) b':=by
 intro m
 induction m with
 | zero=>intro j b acc h1 h2;omega
 | succ m ih=>
   intro j b acc h1 h2 hb
   have hl:=hr.1
   rw [spots_Match_l16]
   simp only [cm_lss,ll_eq,cond_dec]
   by_cases c:j<r.length
   · have hx:=hr.2 _ (List.getElem_mem c)
     rw [if_pos (by omega),at_in c]
     simp only [Option.bind_some,mk_at hb hx,inc1 (show j≤100000000 by omega)]
     obtain ⟨b',h3,h4⟩:=ih (j+1) _ _ (by omega) (by omega) (mk_set hb hx)
     refine ⟨b',?_,h4⟩
     rw [List.drop_eq_getElem_cons c]
     simpa using h3
   · rw [if_neg (by omega),List.drop_of_length_le (by omega),List.append_nil]
     exact ⟨b,hb,rfl⟩
theorem pl15 (hp:Ok p) {N:Nat} (hN:50≤N) (k1:Int→List Bool→List Int→Option Bool) (v:Int) (now:List Bool) {th:List Int} (ht:Fit p th):∀(m j:Nat) (b:List Bool) (acc:List Int),j≤th.length→th.length<j+m→Mk p.Sets.length b acc→
 ∃b',Mk p.Sets.length b' (acc++(th.drop j).flatMap (nextOf p))∧spots_Match_l15 N k1 p v now th m j b=spots_Match_l17 k1 v now b' N 0 []:=by
 intro m
 induction m with
 | zero=>intro j b acc h1 h2;omega
 | succ m ih=>
   intro j b acc h1 h2 hb
   have hl:=ht.1
   rw [spots_Match_l15]
   simp only [cm_lss,ll_eq,cond_dec]
   by_cases c:j<th.length
   · obtain ⟨h5,h6⟩:=hp.next_at (ht.2 _ (List.getElem_mem c))
     have h7:=h6.1
     rw [if_pos (by omega),at_in c]
     simp only [Option.bind_some,h5]
     obtain ⟨b1,h3,h4⟩:=pl16 hp (spots_Match_l15 N k1 p v now th m) j h6 N 0 b acc (by omega) (by omega) hb
     have h4:spots_Match_l16 (spots_Match_l15 N k1 p v now th m) (nextOf p th[j]) j N 0 b=_:=h4
     rw [h4,inc1 (show j≤100000000 by omega)]
     obtain ⟨b',h8,h9⟩:=ih (j+1) b1 _ (by omega) (by omega) h3
     refine ⟨b',?_,h9⟩
     rw [List.drop_eq_getElem_cons c,List.flatMap_cons]
     simpa using h8
   · rw [if_neg (by omega),List.drop_of_length_le (by omega),List.flatMap_nil,List.append_nil]
     exact ⟨b,hb,rfl⟩
theorem pl17 (hp:Ok p) (k1:Int→List Bool→List Int→Option Bool) (v:Int) (now:List Bool) {b:List Bool} {acc:List Int} (hb:Mk p.Sets.length b acc):∀(m i:Nat) (l:List Int),i≤p.Sets.length→p.Sets.length<i+m→l.length≤i→
 spots_Match_l17 k1 v now b m i l=k1 (ar .add .i64 v 1) now (l++pickF i p.Sets.length fun n=>decide (n∈acc)):=by
 intro m
 induction m with
 | zero=>intro i l h1 h2;omega
 | succ m ih=>
   intro i l h1 h2 h3
   have hl:=hp.low.sets
   rw [spots_Match_l17]
   simp only [cm_lss,ll_eq,cond_dec,hb.1]
   by_cases c:i<p.Sets.length
   · have e:at_ b (i:Int)=some (decide ((i:Int)∈acc)):=mk_at hb ⟨by omega,by omega⟩
     rw [if_pos (by omega),pickF_s c]
     simp only [Option.bind_some,e,inc1 (show i≤100000000 by omega),cond_dec]
     by_cases g:(i:Int)∈acc
     · simp only [g,if_true,decide_true,app_eq (show l.length+[(i:Int)].length≤1000000000 by simp;omega),Option.bind_some]
       rw [ih (i+1) _ (by omega) (by omega) (by simp;omega)]
       simp
     · simp only [g,if_false,decide_false,Option.bind_some,Bool.false_eq_true]
       exact ih (i+1) _ (by omega) (by omega) (by omega)
   · rw [if_neg (by omega),show i=p.Sets.length by omega,pickF_e,List.append_nil]
theorem pl10 (hp:Ok p) {N:Nat} (k1:Int→List Bool→List Int→Option Bool) {s:ByteArray} {i:Nat} (hi:i<s.data.toList.length) {op:List Int} (ho:Fit p op):∀(m j:Nat) (b:List Bool) (th:List Int),j≤op.length→op.length<j+m→th.length≤j→Mk p.Sets.length b th→
 ∃ b',Mk p.Sets.length b' (th++nowL p s.data.toList[i] (op.drop j))∧spots_Match_l10 N k1 p s op i m j b th=
   cond (cm .eql i (ar .sub .i64 (sl s) 1)) (spots_Match_l13 p b' N 0) ((zro cB false (ll (rw _ cB b')) (ll (rw _ cB b'))).bind fun l54=>spots_Match_l15 N k1 p i b' (th++nowL p s.data.toList[i] (op.drop j)) N 0 l54):=by
 intro m
 induction m with
 | zero=>intro j b th h1 h2;omega
 | succ m ih=>
   intro j b th h1 h2 h3 hb
   have hl:=ho.1
   obtain ⟨g1,g2⟩:=sa_at hi
   rw [spots_Match_l10]
   by_cases c:j<op.length
   · have hx:=ho.2 _ (List.getElem_mem c)
     obtain ⟨S,h5,h6⟩:=set_at hx s.data.toList[i]
     have c':cm .lss (j:Int) (ll (rw _ (cI .i64) op))=true:=by rw [cm_lss,ll_eq];exact decide_eq_true (by omega)
     rw [c',_root_.cond_true,at_in c]
     simp only [Option.bind_some,h5,g1,g2,_root_.cond_true,has_p,inc1 (show j≤100000000 by omega)]
     rw [List.drop_eq_getElem_cons c]
     unfold nowL
     rw [List.filter_cons,h6]
     cases hS:S.has (s.data.toList[i]).toNat with
     | true=>
       simp only [_root_.cond_true,if_true,mk_at hb hx,put,app_eq (show th.length+[op[j]].length≤1000000000 by simp;omega),Option.bind_some]
       obtain ⟨b',q1,q2⟩:=ih (j+1) _ _ (by omega) (by omega) (by simp;omega) (mk_set hb hx)
       unfold nowL at q1 q2
       rw [List.append_assoc,List.singleton_append] at q1 q2
       exact ⟨b',q1,q2⟩
     | false=>
       simp only [_root_.cond_false,Bool.false_eq_true,if_false,Option.bind_some]
       exact ih (j+1) _ _ (by omega) (by omega) (by omega) hb
   · have c':cm .lss (j:Int) (ll (rw _ (cI .i64) op))=false:=by rw [cm_lss,ll_eq];exact decide_eq_false (by omega)
     rw [c',_root_.cond_false,List.drop_of_length_le (by omega)]
     have e:nowL p s.data.toList[i] []=[]:=rfl
     rw [e,List.append_nil]
     exact ⟨b,hb,rfl⟩
theorem any_swap (a b:List Int):(a.any fun k=>decide (k∈b))=b.any fun k=>decide (k∈a):=by
 rw [Bool.eq_iff_iff,List.any_eq_true,List.any_eq_true]
 constructor<;>(rintro ⟨x,h1,h2⟩;exact ⟨x,by simpa using h2,by simpa using h1⟩)
theorem pl1 (hp:Ok p) {N:Nat} (hN:50≤N) {s:ByteArray} (hs:s.data.toList.length≤20):∀(m i:Nat) (b:List Bool) (op x:List Int),i<s.data.toList.length→s.data.toList.length<i+m→b.length=p.Sets.length→Fit p op→spots_Match_l1 N p s m i b op=some ((runL p (s.data.toList.drop i) op x).any fun k=>decide (k∈p.Last)):=by
 intro m
 induction m with
 | zero=>intro i b op x h1 h2;omega
 | succ m ih=>
   intro i b op x c h2 hbl ho
   have hz:s.size=s.data.toList.length:=by simp
   have hol:=ho.1
   have hll:=hp.low.last
   have hsl:=hp.low.sets
   rw [spots_Match_l1]
   have c':cm .lss (i:Int) (sl s)=true:=by rw [cm_lss,sl_eq];exact decide_eq_true (by omega)
   rw [c',_root_.cond_true,Option.bind_some,hbl]
   obtain ⟨b',q1,q2⟩:=pl10 hp (N:=N) (spots_Match_l1 N p s m) c ho N 0 _ [] (by omega) (by omega) (by simp) (mk_0 (many:=p.Sets.length))
   have q2:spots_Match_l10 N (spots_Match_l1 N p s m) p s op i N 0 (List.replicate p.Sets.length false) []=_:=q2
   rw [q2]
   simp only [List.nil_append,List.drop_zero] at q1 ⊢
   rw [List.drop_eq_getElem_cons c,runL]
   have hn:=fit_now (c:=s.data.toList[i]) ho
   have hnl:=hn.1
   rw [cm_eql,sl_eq,hz,ar_sub (by omega) (by omega),cond_dec]
   by_cases e:i+1=s.data.toList.length
   · rw [if_pos (by omega),l13_eq,List.drop_of_length_le (by omega),runL]
     have h5:spots_Match_l5 p b' N 0=_:=pl5 hp q1 N 0 (by omega) (by omega)
     rw [h5,List.drop_zero,any_swap]
   · rw [if_neg (by omega)]
     have z:zro cB false (ll (rw _ cB b')) (ll (rw _ cB b'))=some (List.replicate p.Sets.length false):=by
      rw [ll_eq,q1.1]
      unfold zro
      rw [if_pos ⟨rfl,by omega,by omega⟩,Int.toNat_natCast]
     rw [z,Option.bind_some]
     obtain ⟨b2,q3,q4⟩:=pl15 hp hN (spots_Match_l1 N p s m) i b' hn N 0 _ [] (by omega) (by omega) (mk_0 (many:=p.Sets.length))
     have q4:spots_Match_l15 N (spots_Match_l1 N p s m) p i b' (nowL p s.data.toList[i] op) N 0 (List.replicate p.Sets.length false)=_:=q4
     rw [q4]
     simp only [List.nil_append,List.drop_zero] at q3
     have q5:spots_Match_l17 (spots_Match_l1 N p s m) i b' b2 N 0 []=_:=pl17 hp (spots_Match_l1 N p s m) i b' q3 N 0 [] (by omega) (by omega) (by simp)
     rw [q5,List.nil_append,pickF_0,inc1 (by omega)]
     exact ih (i+1) b' _ _ (by omega) (by omega) q1.1 (fit_pick hp.low)
theorem match_p (hp:Low p) {N:Nat} (hN:50≤N) {s:ByteArray} (hs:s.data.toList.length≤20):spots_Match_g N p s=some (matchB p s):=by
 unfold spots_Match_g matchB
 rw [right_p hp hN]
 simp only [Option.bind_some,cond_not,sc_eql,cond_dec]
 cases h:okB p with
 | false=>simp
 | true=>
   have hk:=ok_of hp h
   have hsl:=hp.sets
   simp only [_root_.cond_true,if_true]
   by_cases e:s=ByteArray.empty
   · rw [if_pos e,if_pos e]
   · rw [if_neg e,if_neg e]
     have hz:s.size=s.data.toList.length:=by simp
     have hne:0<s.data.toList.length:=by
      rcases Nat.eq_zero_or_pos s.data.toList.length with h | h
      · exact absurd (by obtain ⟨⟨l⟩⟩:=s;simp at h;subst h;rfl) e
      · exact h
     have z:zro cB false (ll (rw _ cSet p.Sets)) (ll (rw _ cSet p.Sets))=some (List.replicate p.Sets.length false):=by
      rw [ll_eq]
      unfold zro
      rw [if_pos ⟨rfl,by omega,by omega⟩,Int.toNat_natCast]
     have c':cm .lss 0 (sl s)=true:=by rw [cm_lss,sl_eq];exact decide_eq_true (by omega)
     rw [z,Option.bind_some,c',_root_.cond_true,List.length_replicate,l10_eq]
     have h1:spots_Match_l1 N p s (N+1) 0 (List.replicate p.Sets.length false) p.First=_:=pl1 hk hN hs (N+1) 0 (List.replicate p.Sets.length false) p.First [] (by omega) (by omega) (by simp) hk.first
     rw [spots_Match_l1,c',_root_.cond_true,List.length_replicate,Option.bind_some] at h1
     exact h1
theorem each_l (hn:p.Next.length≤30) {N:Nat} {s:ByteArray} (h:(∀l∈p.Next,l.length≤40)→spots_Right_g N p=some (okB p)∧r16_Right_g N p=some (okB p)∧spots_Match_g N p s=some (matchB p s)∧r16_Match_g N p s=some (matchB p s)) (hw:l16_works_g N=some true):∀(m i:Nat),i≤p.Next.length→p.Next.length<i+m→(∀l∈p.Next.take i,l.length≤40)→l16_SpotsMatch_l1 N p s m i=some true:=by
 intro m
 induction m with
 | zero=>intro i h1 h2;omega
 | succ m ih=>
   intro i h1 h2 h3
   rw [l16_SpotsMatch_l1]
   by_cases c:i<p.Next.length
   · have c':cm .lss (i:Int) (ll (rw _ (cLs (cI .i64)) p.Next))=true:=by rw [cm_lss,ll_eq];exact decide_eq_true (by omega)
     rw [c',_root_.cond_true,at_in c,Option.bind_some,cm_gtr,ll_eq,cond_dec,inc1 (by omega)]
     by_cases g:(40:Int)<(p.Next[i].length:Nat)
     · rw [if_pos g,hw];rfl
     · rw [if_neg g]
       refine ih (i+1) (by omega) (by omega) fun l hl=>?_
       rw [List.take_succ_eq_append_getElem c,List.mem_append,List.mem_singleton] at hl
       rcases hl with hl | rfl
       · exact h3 l hl
       · omega
   · have c':cm .lss (i:Int) (ll (rw _ (cLs (cI .i64)) p.Next))=false:=by rw [cm_lss,ll_eq];exact decide_eq_false (by omega)
     rw [List.take_of_length_le (by omega)] at h3
     obtain ⟨e1,e2,e3,e4⟩:=h h3
     rw [c',_root_.cond_false,e1,e2,e3,e4,hw]
     have t:∀b:Bool,conj [b==b]=true:=fun b=>by cases b<;>rfl
     simp only [Option.bind_some,t,_root_.cond_true]
theorem spotsmatch_p (p:GSpots) (s:ByteArray):l16_SpotsMatch_g 100 p s=some true:=by
 unfold l16_SpotsMatch_g
 simp only [cm_gtr,ll_eq,cond_dec,sl_eq]
 by_cases h1:(30:Int)<p.Sets.length
 · simp only [h1,if_true,Option.bind_some,_root_.cond_true,works16]
 by_cases h2:(30:Int)<p.Next.length
 · simp only [h1,h2,if_false,if_true,Option.bind_some,_root_.cond_true,works16]
 by_cases h3:(40:Int)<p.First.length
 · simp only [h1,h2,h3,if_false,if_true,Option.bind_some,_root_.cond_true,works16]
 by_cases h4:(40:Int)<p.Last.length
 · simp only [h1,h2,h3,h4,if_false,if_true,Option.bind_some,_root_.cond_true,works16]
 by_cases h5:(20:Int)<s.size
 · simp only [h1,h2,h3,h4,h5,if_false,if_true,Option.bind_some,decide_true,_root_.cond_true,works16]
 simp only [h1,h2,h3,h4,h5,if_false,Option.bind_some,decide_false,_root_.cond_false]
 have hs:s.data.toList.length≤20:=by
  have:s.size=s.data.toList.length:=by simp
  omega
 exact each_l (by omega) (fun h=>by
  have hp:Low p:=⟨by omega,by omega,by omega,by omega,h⟩
  exact ⟨right_p hp (by omega),rright_p hp (by omega),match_p hp (by omega) hs,rmatch_p hp (by omega) hs⟩) works16 100 0 (by omega) (by omega) (by simp)
end Pl
end Go.Proofs.YtbpihhelojjedaaDoor
