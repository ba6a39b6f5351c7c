/- Texts that the proof leans on. -/
import Derived.Test.YtbpihhelojjedaaDoorK223
set_option linter.unusedVariables false
set_option linter.unusedSimpArgs false
set_option maxRecDepth 100000
set_option maxHeartbeats 4000000
namespace Go.Proofs.YtbpihhelojjedaaDoor
open Go
open Sh Gn
namespace Pl
def pickL (many:Nat) (f:Int→Bool):List Int:=((List.range many).map Int.ofNat).filter f
theorem mem_pick {many:Nat} {f:Int→Bool} {x:Int}:x∈pickL many f↔(0≤x∧x<many)∧f x=true:=by
 unfold pickL
 rw [List.mem_filter,List.mem_map]
 constructor
 · rintro ⟨⟨n,hn,rfl⟩,h⟩
   have:=List.mem_range.1 hn
   exact ⟨⟨by simp,by simpa using this⟩,h⟩
 · rintro ⟨⟨h1,h2⟩,h⟩
   exact ⟨⟨x.toNat,List.mem_range.2 (by omega),by simp;omega⟩,h⟩
theorem pick_len {many:Nat} {f:Int→Bool}:(pickL many f).length≤many:=by
 unfold pickL
 refine Nat.le_trans (List.length_filter_le _ _) ?_
 simp
def pickF (i many:Nat) (f:Int→Bool):List Int:=(((List.range many).drop i).map Int.ofNat).filter f
theorem pickF_0 {many:Nat} {f:Int→Bool}:pickF 0 many f=pickL many f:=rfl
theorem pickF_s {i many:Nat} {f:Int→Bool} (h:i<many):pickF i many f=if f i then (i:Int)::pickF (i+1) many f else pickF (i+1) many f:=by
 unfold pickF
 rw [List.drop_eq_getElem_cons (by simpa using h),List.map_cons,List.filter_cons,List.getElem_range]
 rfl
theorem pickF_e {many:Nat} {f:Int→Bool}:pickF many many f=[]:=by
 unfold pickF
 rw [List.drop_of_length_le (by simp)]
 rfl
def nextOf (p:GSpots) (k:Int):List Int:=p.Next.getD k.toNat []
def hasB (p:GSpots) (c:UInt8) (k:Int):Bool:=match p.Sets[k.toNat]? with
 | some S=>S.has c.toNat
 | none=>false
def nowL (p:GSpots) (c:UInt8) (l:List Int):List Int:=l.filter (hasB p c)
def stepL (p:GSpots) (l:List Int):List Int:=pickL p.Sets.length fun n=>decide (n∈l.flatMap (nextOf p))
def runL (p:GSpots):List UInt8→List Int→List Int→List Int
 | [],_,now=>now
 | c::s,l,_=>runL p s (stepL p (nowL p c l)) (nowL p c l)
def matchB (p:GSpots) (s:ByteArray):Bool:=if okB p then (if s=ByteArray.empty then p.None else (runL p s.data.toList p.First []).any fun k=>decide (k∈p.Last)) else false
def Fit (p:GSpots) (l:List Int):Prop:=l.length≤200∧∀x∈l,0≤x∧x<(p.Sets.length:Int)
variable {p:GSpots}
structure Ok (p:GSpots):Prop where
 low:Low p
 len:p.Next.length=p.Sets.length
 first:Fit p p.First
 last:Fit p p.Last
 each:∀l∈p.Next,Fit p l
theorem ok_of (hp:Low p) (h:okB p=true):Ok p:=by
 unfold okB at h
 simp only [Bool.and_eq_true,decide_eq_true_eq,List.all_eq_true] at h
 obtain ⟨-,h1,h2,h3,h4⟩:=h
 exact ⟨hp,by omega,⟨hp.first,fun x hx=>rs_in h2 (by omega) x hx⟩,⟨hp.last,fun x hx=>rs_in h3 (by omega) x hx⟩,fun l hl=>⟨hp.each l hl,fun x hx=>rs_in (h4 l hl) (by omega) x hx⟩⟩
theorem Ok.next_at (hp:Ok p) {k:Int} (h:0≤k∧k<p.Sets.length):at_ p.Next k=some (nextOf p k)∧Fit p (nextOf p k):=by
 have hl:=hp.len
 obtain ⟨y,h1,h2⟩:=at_int (l:=p.Next) (x:=k) h.1 (by omega)
 have e:nextOf p k=y:=by unfold nextOf;rw [List.getD_eq_getElem?_getD,h2];rfl
 rw [e]
 exact ⟨h1,hp.each _ (List.mem_of_getElem? h2)⟩
theorem set_at {k:Int} (h:0≤k∧k<p.Sets.length) (c:UInt8):∃S,at_ p.Sets k=some S∧hasB p c k=S.has c.toNat:=by
 obtain ⟨y,h1,h2⟩:=at_int (l:=p.Sets) (x:=k) h.1 (by omega)
 exact ⟨y,h1,by unfold hasB;rw [h2]⟩
theorem fit_now {c:UInt8} {l:List Int} (h:Fit p l):Fit p (nowL p c l):=⟨Nat.le_trans (List.length_filter_le _ _) h.1,fun x hx=>h.2 x (List.mem_filter.1 hx).1⟩
theorem fit_pick (hp:Low p) {f:Int→Bool}:Fit p (pickL p.Sets.length f):=by
 have:=hp.sets
 exact ⟨Nat.le_trans pick_len (by omega),fun x hx=>(mem_pick.1 hx).1⟩
def Mk (many:Nat) (b:List Bool) (acc:List Int):Prop:=b.length=many∧∀k:Nat,k<many→b[k]?=some (decide ((k:Int)∈acc))
theorem mk_0 {many:Nat}:Mk many (List.replicate many false) []:=⟨by simp,fun k hk=>by rw [List.getElem?_replicate,if_pos hk];simp⟩
theorem mk_at {many:Nat} {b:List Bool} {acc:List Int} (h:Mk many b acc) {x:Int} (hx:0≤x∧x<many):at_ b x=some (decide (x∈acc)):=by
 obtain ⟨k,rfl⟩:=Int.eq_ofNat_of_zero_le hx.1
 rw [at_nat]
 exact h.2 k (by omega)
theorem mk_set {many:Nat} {b:List Bool} {acc:List Int} (h:Mk many b acc) {x:Int} (hx:0≤x∧x<many):Mk many (b.set x.toNat true) (acc++[x]):=by
 refine ⟨by rw [List.length_set];exact h.1,fun k hk=>?_⟩
 by_cases e:x.toNat=k
 · rw [e,List.getElem?_set_self (by rw [h.1];exact hk),decide_eq_true]
   rw [List.mem_append];right
   rw [List.mem_singleton];omega
 · rw [List.getElem?_set_ne e,h.2 k hk]
   congr 1
   rw [decide_eq_decide,List.mem_append,List.mem_singleton]
   exact ⟨.inl,fun h=>h.resolve_right (by omega)⟩
theorem sa_at {s:ByteArray} {i:Nat} (h:i<s.data.toList.length):sinB s (i:Int)=true∧sa s (i:Int)=(s.data.toList[i].toNat:Int):=by
 have h':i<s.size:=by simpa using h
 refine ⟨by simp [sinB,h'],?_⟩
 show ((s.data.getD _ 0).toNat:Int)=_
 rw [Int.toNat_natCast,Array.getD_eq_getD_getElem?,Array.getElem?_eq_getElem (by simpa using h)]
 rfl
theorem has_p {S:CSet} {c:UInt8}:charset_Has_g S (c.toNat:Int)=some (S.has c.toNat):=by
 unfold charset_Has_g
 have:=c.toNat_lt
 rw [if_pos (by omega)];rfl
end Pl
end Go.Proofs.YtbpihhelojjedaaDoor
namespace Go.Proofs.YtbpihhelojjedaaDoor
open Go
open Sh Gn
namespace Pl
variable {p:GSpots}
theorem l13_eq (b:List Bool):∀(m:Nat) (i:Int),spots_Match_l13 p b m i=spots_Match_l5 p b m i:=by
 intro m;induction m with
 | zero=>intro i;rfl
 | succ m ih=>intro i;rw [spots_Match_l13,spots_Match_l5];simp only [ih]
theorem l16_eq (k:Int→List Bool→Option Bool) (v:Int) (r:List Int):∀(m:Nat) (i:Int) (b:List Bool),spots_Match_l8 k v r m i b=spots_Match_l16 k r v m i b:=by
 intro m;induction m with
 | zero=>intro i b;rfl
 | succ m ih=>intro i b;rw [spots_Match_l8,spots_Match_l16];simp only [ih]
theorem l17_eq (N:Nat) (s:ByteArray) (some_ now:List Bool):∀(m:Nat) (i:Int) (l:List Int),spots_Match_l9 N p s some_ now m i l=spots_Match_l17 (spots_Match_l1 N p s N) 0 now some_ m i l:=by
 intro m;induction m with
 | zero=>intro i l;rfl
 | succ m ih=>intro i l;rw [spots_Match_l9,spots_Match_l17];simp only [ih]
theorem l15_eq (N:Nat) (s:ByteArray) (th:List Int) (now:List Bool):∀(m:Nat) (i:Int) (b:List Bool),spots_Match_l7 N p s th now m i b=spots_Match_l15 N (spots_Match_l1 N p s N) p 0 now th m i b:=by
 intro m;induction m with
 | zero=>intro i l;rfl
 | succ m ih=>
   intro i b
   have e:spots_Match_l7 N p s th now m=spots_Match_l15 N (spots_Match_l1 N p s N) p 0 now th m:=by funext i b;exact ih i b
   rw [spots_Match_l7,spots_Match_l15];simp only [e,l16_eq,l17_eq]
theorem l10_eq (N:Nat) (s:ByteArray):∀(m:Nat) (i:Int) (b:List Bool) (l:List Int),spots_Match_l2 N p s m i b l=spots_Match_l10 N (spots_Match_l1 N p s N) p s p.First 0 m i b l:=by
 intro m;induction m with
 | zero=>intro i b l;rfl
 | succ m ih=>intro i b l;rw [spots_Match_l2,spots_Match_l10];simp only [ih,l15_eq,l13_eq];(generalize at_ p.First i=o;cases o<;>rfl)
theorem pl5 (hp:Ok p) {b:List Bool} {acc:List Int} (hb:Mk p.Sets.length b acc):∀(m j:Nat),j≤p.Last.length→p.Last.length<j+m→spots_Match_l5 p b m j=some ((p.Last.drop j).any fun k=>decide (k∈acc)):=by
 intro m
 induction m with
 | zero=>intro j h1 h2;omega
 | succ m ih=>
   intro j h1 h2
   have hl:=hp.low.last
   rw [spots_Match_l5]
   simp only [cm_lss,ll_eq,cond_dec,cm_geq]
   by_cases c:j<p.Last.length
   · have hx:=hp.last.2 _ (List.getElem_mem c)
     rw [if_pos (by omega),at_in c,List.drop_eq_getElem_cons c,List.any_cons]
     simp only [Option.bind_some,mk_at hb hx,inc1 (show j≤100000000 by omega),cond_dec]
     by_cases e:p.Last[j]∈acc
     · have:(0:Int)≤j:=by omega
       simp only [e,this,if_true,decide_true,Bool.true_or]
     · simp only [e,if_false,decide_false,Bool.false_or]
       exact ih (j+1) (by omega) (by omega)
   · rw [if_neg (by omega),List.drop_of_length_le (by omega)]
     rfl
theorem pl16 (hp:Ok p) (k:Int→List Bool→Option Bool) (v:Int) {r:List Int} (hr:Fit p r):∀(m j:Nat) (b:List Bool) (acc:List Int),j≤r.length→r.length<j+m→Mk p.Sets.length b acc→∃b',Mk p.Sets.length b' (acc++r.drop j)∧spots_Match_l16 k r v m j b=k (ar .add .i64 v 1) b':=by
 intro m
 induction m with
 | zero=>intro j b acc h1 h2;omega
 | succ m ih=>
   intro j b acc h1 h2 hb
   have hl:=hr.1
   rw [spots_Match_l16]
   simp only [cm_lss,ll_eq,cond_dec]
   by_cases c:j<r.length
   · have hx:=hr.2 _ (List.getElem_mem c)
     rw [if_pos (by omega),at_in c]
     simp only [Option.bind_some,mk_at hb hx,inc1 (show j≤100000000 by omega)]
     obtain ⟨b',h3,h4⟩:=ih (j+1) _ _ (by omega) (by omega) (mk_set hb hx)
     refine ⟨b',?_,h4⟩
     rw [List.drop_eq_getElem_cons c]
     simpa using h3
   · rw [if_neg (by omega),List.drop_of_length_le (by omega),List.append_nil]
     exact ⟨b,hb,rfl⟩
theorem pl15 (hp:Ok p) {N:Nat} (hN:250≤N) (k1:Int→List Bool→List Int→Option Bool) (v:Int) (now:List Bool) {th:List Int} (ht:Fit p th):∀(m j:Nat) (b:List Bool) (acc:List Int),j≤th.length→th.length<j+m→Mk p.Sets.length b acc→
 ∃b',Mk p.Sets.length b' (acc++(th.drop j).flatMap (nextOf p))∧spots_Match_l15 N k1 p v now th m j b=spots_Match_l17 k1 v now b' N 0 []:=by
 intro m
 induction m with
 | zero=>intro j b acc h1 h2;omega
 | succ m ih=>
   intro j b acc h1 h2 hb
   have hl:=ht.1
   rw [spots_Match_l15]
   simp only [cm_lss,ll_eq,cond_dec]
   by_cases c:j<th.length
   · obtain ⟨h5,h6⟩:=hp.next_at (ht.2 _ (List.getElem_mem c))
     have h7:=h6.1
     rw [if_pos (by omega),at_in c]
     simp only [Option.bind_some,h5]
     obtain ⟨b1,h3,h4⟩:=pl16 hp (spots_Match_l15 N k1 p v now th m) j h6 N 0 b acc (by omega) (by omega) hb
     have h4:spots_Match_l16 (spots_Match_l15 N k1 p v now th m) (nextOf p th[j]) j N 0 b=_:=h4
     rw [h4,inc1 (show j≤100000000 by omega)]
     obtain ⟨b',h8,h9⟩:=ih (j+1) b1 _ (by omega) (by omega) h3
     refine ⟨b',?_,h9⟩
     rw [List.drop_eq_getElem_cons c,List.flatMap_cons]
     simpa using h8
   · rw [if_neg (by omega),List.drop_of_length_le (by omega),List.flatMap_nil,List.append_nil]
     exact ⟨b,hb,rfl⟩
theorem pl17 (hp:Ok p) (k1:Int→List Bool→List Int→Option Bool) (v:Int) (now:List Bool) {b:List Bool} {acc:List Int} (hb:Mk p.Sets.length b acc):∀(m i:Nat) (l:List Int),i≤p.Sets.length→p.Sets.length<i+m→l.length≤i→
 spots_Match_l17 k1 v now b m i l=k1 (ar .add .i64 v 1) now (l++pickF i p.Sets.length fun n=>decide (n∈acc)):=by
 intro m
 induction m with
 | zero=>intro i l h1 h2;omega
 | succ m ih=>
   intro i l h1 h2 h3
   have hl:=hp.low.sets
   rw [spots_Match_l17]
   simp only [cm_lss,ll_eq,cond_dec,hb.1]
   by_cases c:i<p.Sets.length
   · have e:at_ b (i:Int)=some (decide ((i:Int)∈acc)):=mk_at hb ⟨by omega,by omega⟩
     rw [if_pos (by omega),pickF_s c]
     simp only [Option.bind_some,e,inc1 (show i≤100000000 by omega),cond_dec]
     by_cases g:(i:Int)∈acc
     · simp only [g,if_true,decide_true,app_eq (show l.length+[(i:Int)].length≤1000000000 by simp;omega),Option.bind_some]
       rw [ih (i+1) _ (by omega) (by omega) (by simp;omega)]
       simp
     · simp only [g,if_false,decide_false,Option.bind_some,Bool.false_eq_true]
       exact ih (i+1) _ (by omega) (by omega) (by omega)
   · rw [if_neg (by omega),show i=p.Sets.length by omega,pickF_e,List.append_nil]
theorem pl10 (hp:Ok p) {N:Nat} (k1:Int→List Bool→List Int→Option Bool) {s:ByteArray} {i:Nat} (hi:i<s.data.toList.length) {op:List Int} (ho:Fit p op):∀(m j:Nat) (b:List Bool) (th:List Int),j≤op.length→op.length<j+m→th.length≤j→Mk p.Sets.length b th→
 ∃ b',Mk p.Sets.length b' (th++nowL p s.data.toList[i] (op.drop j))∧spots_Match_l10 N k1 p s op i m j b th=
   cond (cm .eql i (ar .sub .i64 (sl s) 1)) (spots_Match_l13 p b' N 0) ((zro cB false (ll (rw _ cB b')) (ll (rw _ cB b'))).bind fun l54=>spots_Match_l15 N k1 p i b' (th++nowL p s.data.toList[i] (op.drop j)) N 0 l54):=by
 intro m
 induction m with
 | zero=>intro j b th h1 h2;omega
 | succ m ih=>
   intro j b th h1 h2 h3 hb
   have hl:=ho.1
   obtain ⟨g1,g2⟩:=sa_at hi
   rw [spots_Match_l10]
   by_cases c:j<op.length
   · have hx:=ho.2 _ (List.getElem_mem c)
     obtain ⟨S,h5,h6⟩:=set_at hx s.data.toList[i]
     have c':cm .lss (j:Int) (ll (rw _ (cI .i64) op))=true:=by rw [cm_lss,ll_eq];exact decide_eq_true (by omega)
     rw [c',_root_.cond_true,at_in c]
     simp only [Option.bind_some,h5,g1,g2,_root_.cond_true,has_p,inc1 (show j≤100000000 by omega)]
     rw [List.drop_eq_getElem_cons c]
     unfold nowL
     rw [List.filter_cons,h6]
     cases hS:S.has (s.data.toList[i]).toNat with
     | true=>
       simp only [_root_.cond_true,if_true,mk_at hb hx,put,app_eq (show th.length+[op[j]].length≤1000000000 by simp;omega),Option.bind_some]
       obtain ⟨b',q1,q2⟩:=ih (j+1) _ _ (by omega) (by omega) (by simp;omega) (mk_set hb hx)
       unfold nowL at q1 q2
       rw [List.append_assoc,List.singleton_append] at q1 q2
       exact ⟨b',q1,q2⟩
     | false=>
       simp only [_root_.cond_false,Bool.false_eq_true,if_false,Option.bind_some]
       exact ih (j+1) _ _ (by omega) (by omega) (by omega) hb
   · have c':cm .lss (j:Int) (ll (rw _ (cI .i64) op))=false:=by rw [cm_lss,ll_eq];exact decide_eq_false (by omega)
     rw [c',_root_.cond_false,List.drop_of_length_le (by omega)]
     have e:nowL p s.data.toList[i] []=[]:=rfl
     rw [e,List.append_nil]
     exact ⟨b,hb,rfl⟩
theorem any_swap (a b:List Int):(a.any fun k=>decide (k∈b))=b.any fun k=>decide (k∈a):=by
 rw [Bool.eq_iff_iff,List.any_eq_true,List.any_eq_true]
 constructor<;>(rintro ⟨x,h1,h2⟩;exact ⟨x,by simpa using h2,by simpa using h1⟩)
theorem pl1 (hp:Ok p) {N:Nat} (hN:250≤N) {s:ByteArray} (hs:s.data.toList.length≤30):∀(m i:Nat) (b:List Bool) (op x:List Int),i<s.data.toList.length→s.data.toList.length<i+m→b.length=p.Sets.length→Fit p op→spots_Match_l1 N p s m i b op=some ((runL p (s.data.toList.drop i) op x).any fun k=>decide (k∈p.Last)):=by
 intro m
 induction m with
 | zero=>intro i b op x h1 h2;omega
 | succ m ih=>
   intro i b op x c h2 hbl ho
   have hz:s.size=s.data.toList.length:=by simp
   have hol:=ho.1
   have hll:=hp.low.last
   have hsl:=hp.low.sets
   rw [spots_Match_l1]
   have c':cm .lss (i:Int) (sl s)=true:=by rw [cm_lss,sl_eq];exact decide_eq_true (by omega)
   rw [c',_root_.cond_true,Option.bind_some,hbl]
   obtain ⟨b',q1,q2⟩:=pl10 hp (N:=N) (spots_Match_l1 N p s m) c ho N 0 _ [] (by omega) (by omega) (by simp) (mk_0 (many:=p.Sets.length))
   have q2:spots_Match_l10 N (spots_Match_l1 N p s m) p s op i N 0 (List.replicate p.Sets.length false) []=_:=q2
   rw [q2]
   simp only [List.nil_append,List.drop_zero] at q1 ⊢
   rw [List.drop_eq_getElem_cons c,runL]
   have hn:=fit_now (c:=s.data.toList[i]) ho
   have hnl:=hn.1
   rw [cm_eql,sl_eq,hz,ar_sub (by omega) (by omega),cond_dec]
   by_cases e:i+1=s.data.toList.length
   · rw [if_pos (by omega),l13_eq,List.drop_of_length_le (by omega),runL]
     have h5:spots_Match_l5 p b' N 0=_:=pl5 hp q1 N 0 (by omega) (by omega)
     rw [h5,List.drop_zero,any_swap]
   · rw [if_neg (by omega)]
     have z:zro cB false (ll (rw _ cB b')) (ll (rw _ cB b'))=some (List.replicate p.Sets.length false):=by
      rw [ll_eq,q1.1]
      unfold zro
      rw [if_pos ⟨rfl,by omega,by omega⟩,Int.toNat_natCast]
     rw [z,Option.bind_some]
     obtain ⟨b2,q3,q4⟩:=pl15 hp hN (spots_Match_l1 N p s m) i b' hn N 0 _ [] (by omega) (by omega) (mk_0 (many:=p.Sets.length))
     have q4:spots_Match_l15 N (spots_Match_l1 N p s m) p i b' (nowL p s.data.toList[i] op) N 0 (List.replicate p.Sets.length false)=_:=q4
     rw [q4]
     simp only [List.nil_append,List.drop_zero] at q3
     have q5:spots_Match_l17 (spots_Match_l1 N p s m) i b' b2 N 0 []=_:=pl17 hp (spots_Match_l1 N p s m) i b' q3 N 0 [] (by omega) (by omega) (by simp)
     rw [q5,List.nil_append,pickF_0,inc1 (by omega)]
     exact ih (i+1) b' _ _ (by omega) (by omega) q1.1 (fit_pick hp.low)
theorem match_p (hp:Low p) {N:Nat} (hN:250≤N) {s:ByteArray} (hs:s.data.toList.length≤30):spots_Match_g N p s=some (matchB p s):=by
 unfold spots_Match_g matchB
 rw [right_p hp hN]
 simp only [Option.bind_some,cond_not,sc_eql,cond_dec]
 cases h:okB p with
 | false=>simp
 | true=>
   have hk:=ok_of hp h
   have hsl:=hp.sets
   simp only [_root_.cond_true,if_true]
   by_cases e:s=ByteArray.empty
   · rw [if_pos e,if_pos e]
   · rw [if_neg e,if_neg e]
     have hz:s.size=s.data.toList.length:=by simp
     have hne:0<s.data.toList.length:=by
      rcases Nat.eq_zero_or_pos s.data.toList.length with h | h
      · exact absurd (by obtain ⟨⟨l⟩⟩:=s;simp at h;subst h;rfl) e
      · exact h
     have z:zro cB false (ll (rw _ cSet p.Sets)) (ll (rw _ cSet p.Sets))=some (List.replicate p.Sets.length false):=by
      rw [ll_eq]
      unfold zro
      rw [if_pos ⟨rfl,by omega,by omega⟩,Int.toNat_natCast]
     have c':cm .lss 0 (sl s)=true:=by rw [cm_lss,sl_eq];exact decide_eq_true (by omega)
     rw [z,Option.bind_some,c',_root_.cond_true,List.length_replicate,l10_eq]
     have h1:spots_Match_l1 N p s (N+1) 0 (List.replicate p.Sets.length false) p.First=_:=pl1 hk hN hs (N+1) 0 (List.replicate p.Sets.length false) p.First [] (by omega) (by omega) (by simp) hk.first
     rw [spots_Match_l1,c',_root_.cond_true,List.length_replicate,Option.bind_some] at h1
     exact h1
end Pl
end Go.Proofs.YtbpihhelojjedaaDoor
namespace Go.Proofs.YtbpihhelojjedaaDoor
open Go
namespace Mx
abbrev Pos:=Nat→Bool
def zr:Pos:=fun _=>false
def orP (a b:Pos):Pos:=fun j=>a j||b j
def single (i:Nat):Pos:=fun j=>j==i
def one (S:CSet) (s:List UInt8) (x:Pos):Pos:=fun j=>match j with
 | 0=>false
 | i+1=>x i&&(match s[i]? with | some c=>S.has c.toNat | _=>false)
def iter (f:Pos→Pos):Nat→Pos→Pos
 | 0,x=>x
 | k+1,x=>iter f k (f x)
def upto (f:Pos→Pos):Nat→Pos→Pos
 | 0,x=>x
 | k+1,x=>orP x (f (upto f k x))
def more (long:Nat) (mn mx:Int):Nat:=if mx=-1 then long else (mx-mn).toNat
mutual
def sp (s:List UInt8):Node→Pos→Pos
 | .mk k S kids mn mx=>fun x=>if k=1 then one S s x else if k=2 then spCat s kids x else if k=3 then spAlt s kids x else spRep s kids mn mx x
def spCat (s:List UInt8):List Node→Pos→Pos
 | []=>fun x=>x
 | n::r=>fun x=>spCat s r (sp s n x)
def spAlt (s:List UInt8):List Node→Pos→Pos
 | []=>fun _=>zr
 | n::r=>fun x=>orP (sp s n x) (spAlt s r x)
def spRep (s:List UInt8) (kids:List Node) (mn mx:Int):Pos→Pos:=match kids with
 | []=>fun _=>zr
 | n::_=>fun x=>upto (sp s n) (more s.length mn mx) (iter (sp s n) mn.toNat x)
end
structure Adds (f:Pos→Pos):Prop where
 or_:∀a b,f (orP a b)=orP (f a) (f b)
 none_:f zr=zr
theorem or_none (a:Pos):orP a zr=a:=by funext j;simp [orP,zr]
theorem none_or (a:Pos):orP zr a=a:=by funext j;simp [orP,zr]
theorem or_self (a:Pos):orP a a=a:=by funext j;simp [orP]
theorem or_comm (a b:Pos):orP a b=orP b a:=by funext j;simp [orP,Bool.or_comm]
theorem or_assoc (a b c:Pos):orP (orP a b) c=orP a (orP b c):=by funext j;simp [orP,Bool.or_assoc]
theorem or_four (a b c d:Pos):orP (orP a b) (orP c d)=orP (orP a c) (orP b d):=by
 funext j;simp only [orP];cases a j<;>cases b j<;>cases c j<;>cases d j<;>rfl
theorem adds_one (S:CSet) (s:List UInt8):Adds (one S s) where
 or_ a b:=by
  funext j
  cases j with
  | zero=>rfl
  | succ i=>simp only [one,orP];cases a i<;>cases b i<;>simp
 none_:=by funext j;cases j<;>simp [one,zr]
theorem Adds.comp {f g:Pos→Pos} (hf:Adds f) (hg:Adds g):Adds (fun x=>g (f x)):=⟨fun a b=>by rw [hf.or_,hg.or_],by rw [hf.none_,hg.none_]⟩
theorem Adds.id:Adds (fun x=>x):=⟨fun _ _=>rfl,rfl⟩
theorem Adds.zr:Adds (fun _=>zr):=⟨fun _ _=>(or_self _).symm,rfl⟩
theorem Adds.orP {f g:Pos→Pos} (hf:Adds f) (hg:Adds g):Adds (fun x=>orP (f x) (g x)):=⟨fun a b=>by rw [hf.or_,hg.or_,or_four],by rw [hf.none_,hg.none_,or_self]⟩
theorem Adds.iter {f:Pos→Pos} (hf:Adds f):∀k,Adds (iter f k)
 | 0=>Adds.id
 | k+1=>hf.comp (Adds.iter hf k)
theorem Adds.upto {f:Pos→Pos} (hf:Adds f):∀k,Adds (upto f k)
 | 0=>Adds.id
 | k+1=>Adds.orP Adds.id ((Adds.upto hf k).comp hf)
mutual
theorem adds_sp (s:List UInt8):∀n,Adds (sp s n)
 | .mk k S kids mn mx=>by
   unfold sp
   by_cases h1:k=1
   · simp only [h1,if_true];exact adds_one S s
   · by_cases h2:k=2
     · simp only [h2];exact adds_cat s kids
     · by_cases h3:k=3
       · simp only [h3];exact adds_alt s kids
       · simp only [h1,h2,h3,if_false];exact adds_rep s kids mn mx
theorem adds_cat (s:List UInt8):∀l,Adds (spCat s l)
 | []=>by unfold spCat;exact Adds.id
 | n::r=>by unfold spCat;exact (adds_sp s n).comp (adds_cat s r)
theorem adds_alt (s:List UInt8):∀l,Adds (spAlt s l)
 | []=>by unfold spAlt;exact Adds.zr
 | n::r=>by unfold spAlt;exact Adds.orP (adds_sp s n) (adds_alt s r)
theorem adds_rep (s:List UInt8):∀(kids:List Node) (mn mx:Int),Adds (spRep s kids mn mx)
 | [],_,_=>by unfold spRep;exact Adds.zr
 | n::_,mn,mx=>by unfold spRep;exact ((adds_sp s n).iter _).comp ((adds_sp s n).upto _)
end
def Sup (N:Nat) (x:Pos):Prop:=∀j,N≤j→x j=false
def Keeps (N:Nat) (f:Pos→Pos):Prop:=∀x,Sup N x→Sup N (f x)
theorem sup_none (N:Nat):Sup N zr:=fun _ _=>rfl
theorem Sup.orP {N:Nat} {a b:Pos} (ha:Sup N a) (hb:Sup N b):Sup N (orP a b):=fun j hj=>by simp [Mx.orP,ha j hj,hb j hj]
theorem sup_single {N i:Nat} (h:i<N):Sup N (single i):=fun j hj=>by simp [single];omega
theorem keeps_one (S:CSet) (s:List UInt8):Keeps (s.length+1) (one S s):=fun x _ j hj=>by
 cases j with
 | zero=>omega
 | succ i=>simp only [one];rw [List.getElem?_eq_none (by omega)];simp
theorem Keeps.iter {N:Nat} {f:Pos→Pos} (hf:Keeps N f):∀k,Keeps N (iter f k)
 | 0=>fun _ h=>h
 | k+1=>fun x h=>Keeps.iter hf k _ (hf x h)
theorem Keeps.upto {N:Nat} {f:Pos→Pos} (hf:Keeps N f):∀k,Keeps N (upto f k)
 | 0=>fun _ h=>h
 | k+1=>fun x h=>h.orP (hf _ (Keeps.upto hf k x h))
mutual
theorem keeps_sp (s:List UInt8):∀n,Keeps (s.length+1) (sp s n)
 | .mk k S kids mn mx=>by
   unfold sp
   by_cases h1:k=1
   · simp only [h1,if_true];exact keeps_one S s
   · by_cases h2:k=2
     · simp only [h2];exact keeps_cat s kids
     · by_cases h3:k=3
       · simp only [h3];exact keeps_alt s kids
       · simp only [h1,h2,h3,if_false];exact keeps_rep s kids mn mx
theorem keeps_cat (s:List UInt8):∀l,Keeps (s.length+1) (spCat s l)
 | []=>by unfold spCat;exact fun _ h=>h
 | n::r=>by unfold spCat;exact fun x h=>keeps_cat s r _ (keeps_sp s n x h)
theorem keeps_alt (s:List UInt8):∀l,Keeps (s.length+1) (spAlt s l)
 | []=>by unfold spAlt;exact fun _ _=>sup_none _
 | n::r=>by unfold spAlt;exact fun x h=>(keeps_sp s n x h).orP (keeps_alt s r x h)
theorem keeps_rep (s:List UInt8):∀(kids:List Node) (mn mx:Int),Keeps (s.length+1) (spRep s kids mn mx)
 | [],_,_=>by unfold spRep;exact fun _ _=>sup_none _
 | n::_,mn,mx=>by unfold spRep;exact fun x h=>(keeps_sp s n).upto _ _ ((keeps_sp s n).iter _ _ h)
end
def Le (a b:Pos):Prop:=∀j,a j=true→b j=true
theorem le_or_left (a b:Pos):Le a (orP a b):=fun j h=>by simp [orP,h]
theorem or_of_le {a b:Pos} (h:Le b a):orP a b=a:=by
 funext j
 simp only [orP]
 cases hb:b j
 · simp
 · simp [h j hb]
theorem Le.antisymm {a b:Pos} (h:Le a b) (h':Le b a):a=b:=by
 funext j
 cases ha:a j
 · cases hb:b j
   · rfl
   · rw [h' j hb] at ha;cases ha
 · rw [h j ha]
theorem iter_succ (f:Pos→Pos):∀k x,iter f (k+1) x=f (iter f k x)
 | 0,_=>rfl
 | k+1,x=>iter_succ f k (f x)
theorem upto_succ {f:Pos→Pos} (hf:Adds f):∀k x,upto f (k+1) x=orP (upto f k x) (iter f (k+1) x)
 | 0,x=>rfl
 | k+1,x=>by
   show orP x (f (upto f (k+1) x))=orP (orP x (f (upto f k x))) (iter f (k+2) x)
   rw [upto_succ hf k x,hf.or_,←or_assoc,←iter_succ f (k+1) x]
theorem upto_le {f:Pos→Pos} (hf:Adds f) (k:Nat) (x:Pos):Le (upto f k x) (upto f (k+1) x):=by rw [upto_succ hf];exact le_or_left _ _
theorem upto_stop {f:Pos→Pos} {k:Nat} {x:Pos} (h:upto f (k+1) x=upto f k x):∀m,k≤m→upto f m x=upto f k x:=by
 intro m hm
 induction m with
 | zero => obtain rfl:k=0:=by omega
           rfl
 | succ m ih=>
   rcases Nat.lt_or_ge k (m+1) with h1 | h1
   · have h2:=ih (by omega)
     show orP x (f (upto f m x))=_
     rw [h2]
     exact h
   · obtain rfl:k=m+1:=by omega
     rfl
def cnt (N:Nat) (x:Pos):Nat:=(List.range N).countP x
theorem cnt_le (N:Nat) (x:Pos):cnt N x≤N:=by unfold cnt;have:=List.countP_le_length (p:=x) (l:=List.range N);simpa using this
theorem cnt_lt {N:Nat} {a b:Pos} (h:Le a b) (hb:Sup N b) (hne:a≠b):cnt N a<cnt N b:=by
 have hex:∃j,a j=false∧b j=true:=Classical.byContradiction fun hno=>hne (h.antisymm fun j hj=>by
  cases ha:a j
  · exact absurd ⟨j,ha,hj⟩ hno
  · rfl)
 obtain ⟨j,h1,h2⟩:=hex
 have hj:j<N:=Nat.lt_of_not_le fun h3=>by rw [hb j h3] at h2;cases h2
 unfold cnt
 have key:∀(l:List Nat),l.countP a≤l.countP b∧(j∈l→l.countP a<l.countP b):=by
  intro l
  induction l with
  | nil=>exact ⟨Nat.le_refl _,fun h=>by cases h⟩
  | cons i r ih=>
    rw [List.countP_cons,List.countP_cons]
    refine ⟨?_,fun hm=>?_⟩
    · cases hai:a i
      · have:=ih.1;simp;omega
      · rw [h i hai];have:=ih.1;simp;omega
    · rcases List.mem_cons.1 hm with rfl | hm
      · rw [h1,h2];have:=ih.1;simp;omega
      · have:=ih.2 hm
        cases hai:a i
        · simp;omega
        · rw [h i hai];simp;omega
 exact (key _).2 (by simpa using hj)
theorem cnt_upto {f:Pos→Pos} {N:Nat} (hf:Adds f) (hk:Keeps N f) {x:Pos} (hx:Sup N x) (hne:x≠zr):∀k,upto f (k+1) x≠upto f k x→k+2≤cnt N (upto f (k+1) x)
 | 0,h=>by
   have h1:0<cnt N x:=by have:=cnt_lt (a:=zr) (b:=x) (fun j h=>by cases h) hx (Ne.symm hne);omega
   have h2:=cnt_lt (upto_le hf 0 x) (hk.upto 1 x hx) (Ne.symm h)
   have h3:upto f 0 x=x:=rfl
   rw [h3] at h2
   omega
 | k +1,h=>by
   by_cases h0:upto f (k+1) x=upto f k x
   · exact absurd ((upto_stop h0 (k+2) (by omega)).trans (upto_stop h0 (k+1) (by omega)).symm) h
   · have h1:=cnt_upto hf hk hx hne k h0
     have h2:=cnt_lt (upto_le hf (k+1) x) (hk.upto (k+2) x hx) (Ne.symm h)
     omega
theorem upto_full {f:Pos→Pos} {N:Nat} (hf:Adds f) (hk:Keeps (N+1) f) {x:Pos} (hx:Sup (N+1) x):∀m,N≤m→upto f m x=upto f N x:=by
 by_cases hne:x=zr
 · subst hne
   intro m _
   rw [(hf.upto m).none_,(hf.upto N).none_]
 · refine upto_stop (Classical.byContradiction fun h=>?_)
   have h1:=cnt_upto hf hk hx hne N h
   have h2:=cnt_le (N+1) (upto f (N+1) x)
   omega
theorem sp_any {f:Pos→Pos} (hf:Adds f) {N:Nat} {x:Pos} (hx:Sup N x) (j:Nat):f x j=(List.range N).any (fun i=>x i&&f (single i) j):=by
 have key:∀k,f (fun i=>decide (i<k)&&x i) j=(List.range k).any (fun i=>x i&&f (single i) j):=by
  intro k
  induction k with
  | zero=>rw [show (fun i=>decide (i<0)&&x i)=zr by funext i;simp [zr],hf.none_];rfl
  | succ k ih=>
    rw [List.range_succ,List.any_append,←ih]
    have e:(fun i=>decide (i<k+1)&&x i)=orP (fun i=>decide (i<k)&&x i) (if x k then single k else zr):=by
     funext i
     simp only [orP]
     by_cases h1:i=k
     · subst h1;cases hx:x i<;>simp [single,zr]
     · have h2:decide (i<k+1)=decide (i<k):=by rw [decide_eq_decide];omega
       rw [h2]
       cases hx:x k<;>simp [single,zr,h1]
    rw [e,hf.or_]
    simp only [orP,List.any_cons,List.any_nil,Bool.or_false]
    cases x k
    · simp [hf.none_,zr]
    · simp
 rw [←key N]
 congr 1
 funext i
 by_cases h:i<N
 · simp [h]
 · simp [h,hx i (by omega)]
end Mx
end Go.Proofs.YtbpihhelojjedaaDoor
namespace Go.Proofs.YtbpihhelojjedaaDoor
open Go
namespace Rx
structure Emb (l m:List UInt8) (k:Nat) (c:Int):Prop where
 at_:∀i,i<l.length→pk m (i+k)=pk l i
 end_:pk m (l.length+k)=c
 len:l.length+k≤m.length
 term:c=-1∨c=41∨c=124
section
variable {l m:List UInt8} {k:Nat} {c:Int}
theorem Emb.get (E:Emb l m k c) {i:Nat} (h:pk l i≠-1):pk m (i+k)=pk l i:=E.at_ i (pk_in h)
def Sim {α:Type} (k:Nat) (L:Prop) (r r':Res α):Prop:=∀a p,r=.ok a p→r'=.ok a (p+k)∨(L∧∃q,r'=.bad 3 q)
variable {at1 at2:Nat→Res Node} {L:Prop}
variable (hf:∀i,i≤l.length→Fine l i (at1 i)) (ha:∀i,i≤l.length→Sim k L (at1 i) (at2 (i+k)))
include hf ha
end
end Rx
namespace Rx
def Bads {α:Type} (l:List UInt8) (r:Res α):Prop:=∀e p,r=.bad e p→(e=1∨e=2∨e=3)∧p≤l.length
variable {l:List UInt8}
end Rx
end Go.Proofs.YtbpihhelojjedaaDoor
namespace Go.Proofs.YtbpihhelojjedaaDoor
open Go
namespace Rx
def timesB (lo hi:Int):Bool:=if lo<0||lo>16||hi>16||hi< -1||hi==0 then false else hi== -1||hi≥lo
def topB (kind:Int) (S:CSet) (many:Nat) (mn mx:Int):Bool:=
 (kind==1||kind==2||kind==3||kind==4)&&(kind==1||decide (S=CSet.empty))&&(kind==4||mn==0&&mx==0)&&
 (if kind==1 then many==0 else if kind==2 then many != 1 else if kind==3 then decide (many>1) else many==1&&timesB mn mx)
mutual
def right:Node→Bool
 | .mk kind S kids mn mx=>topB kind S kids.length mn mx&&rights kind kids
def rights (kind:Int):List Node→Bool
 | []=>true
 | n::r=>(right n&& !(n.kind==kind&&kind != 4))&&rights kind r
end
theorem right_eq (n:Node):right n=(topB n.kind n.set n.kids.length n.min n.max&&rights n.kind n.kids):=by cases n;rw [right]<;>rfl
theorem rights_iff (kind:Int) (ns:List Node):rights kind ns=true↔∀n∈ns,right n=true∧¬(n.kind=kind∧kind≠4):=by
 induction ns with
 | nil=>simp [rights]
 | cons a r ih=>rw [rights,Bool.and_eq_true,ih];simp;intro _;omega
variable {l:List UInt8}
end Rx
end Go.Proofs.YtbpihhelojjedaaDoor
