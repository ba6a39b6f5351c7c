/- Texts that the proof leans on. -/
import Derived.Test.YtjhbgkakhaonaaaGreatDoorK324
set_option linter.unusedVariables false
set_option linter.unusedSimpArgs false
set_option maxRecDepth 100000
set_option maxHeartbeats 4000000
namespace Go.Proofs.YtjhbgkakhaonaaaGreatDoor
open Go
open Sh Gn
namespace Pl
theorem at_nat {α:Type} (l:List α) (i:Nat):at_ l (i:Int)=l[i]?:=by
 unfold at_;rw [if_pos (by omega)];simp
theorem at_in {α:Type} {l:List α} {i:Nat} (h:i<l.length):at_ l (i:Int)=some l[i]:=by rw [at_nat,List.getElem?_eq_getElem h]
theorem at_int {α:Type} {l:List α} {x:Int} (h0:0≤x) (h:x<l.length):∃y,at_ l x=some y∧l[x.toNat]?=some y:=by
 obtain ⟨i,rfl⟩:=Int.eq_ofNat_of_zero_le h0
 exact ⟨l[i]'(by omega),at_in (by omega),by rw [Int.toNat_natCast];exact List.getElem?_eq_getElem (by omega)⟩
theorem inc1 {i:Nat} (h:i≤100000000):ar .add .i64 (i:Int) 1=((i+1:Nat):Int):=by rw [ar_add (by omega) (by omega)];omega
theorem app_eq {α:Type} {c:α→List Ab.T} {l m:List α} (h:l.length+m.length≤1000000000):app c l m=some (l++m):=by unfold app;rw [if_pos h]
def rs (many:Int):Int→List Int→Bool
 | _,[]=>true
 | last,x::l=>if x≤last∨many≤x then false else rs many x l
theorem rising_p {l:List Int} {many:Int} (hl:l.length≤1000000):∀(m i:Nat) (last:Int),i≤l.length→l.length<i+m→spots_rising_l1 l many m last i=some (rs many last (l.drop i)):=by
 intro m
 induction m with
 | zero=>intro i last h1 h2;omega
 | succ m ih=>
   intro i last h1 h2
   rw [spots_rising_l1]
   simp only [cm_lss,ll_eq,cond_dec,cm_leq,cm_geq]
   by_cases c:i<l.length
   · rw [if_pos (by omega),at_in c,List.drop_eq_getElem_cons c,rs]
     simp only [Option.bind_some,inc1 (show i≤100000000 by omega)]
     by_cases g:l[i]≤last
     · simp only [g,if_true,Option.bind_some,true_or,_root_.cond_true]
     · by_cases g2:many≤l[i]
       · simp only [g,g2,if_false,Option.bind_some,decide_true,or_true,if_true,_root_.cond_true]
       · simp only [g,g2,if_false,Option.bind_some,decide_false,or_false,_root_.cond_false]
         exact ih (i+1) _ (by omega) (by omega)
   · rw [if_neg (by omega),List.drop_of_length_le (by omega),rs]
theorem rs_in {many:Int}:∀{l:List Int} {last:Int},rs many last l=true→-1≤last→∀x∈l,0≤x∧x<many
 | [],_,_,_,x,h=>by cases h
 | y ::l,last,h,hl,x,hx=>by
   rw [rs] at h
   split at h
   · cases h
   · rename_i g
     rcases List.mem_cons.1 hx with rfl | hx
     · omega
     · exact rs_in h (by omega) x hx
def okB (p:GSpots):Bool:= !(decide (512<(p.Sets.length:Int)))&&(decide ((p.Next.length:Int)=p.Sets.length)&&(rs p.Sets.length (-1) p.First&&(rs p.Sets.length (-1) p.Last&&p.Next.all (rs p.Sets.length (-1)))))
structure Low (p:GSpots):Prop where
 sets:p.Sets.length≤200
 next:p.Next.length≤200
 first:p.First.length≤200
 last:p.Last.length≤200
 each:∀l∈p.Next,l.length≤200
variable {p:GSpots}
theorem right_l (hp:Low p) {N:Nat} (hN:250≤N):∀(m i:Nat),i≤p.Next.length→p.Next.length<i+m→spots_Right_l3 N p m i=some ((p.Next.drop i).all (rs p.Sets.length (-1))):=by
 intro m
 induction m with
 | zero=>intro i h1 h2;omega
 | succ m ih=>
   intro i h1 h2
   have:=hp.next
   rw [spots_Right_l3]
   simp only [cm_lss,ll_eq,cond_dec,cm_geq]
   by_cases c:i<p.Next.length
   · have hl:=hp.each p.Next[i] (List.getElem_mem c)
     have h5:spots_rising_g N p.Next[i] p.Sets.length=some (rs p.Sets.length (-1) p.Next[i]):=rising_p (by omega) N 0 (-1) (by omega) (by omega)
     rw [if_pos (by omega),at_in c,List.drop_eq_getElem_cons c,List.all_cons]
     simp only [Option.bind_some,h5,inc1 (show i≤100000000 by omega),cond_not]
     cases h6:rs p.Sets.length (-1) p.Next[i] with
     | true=>simp only [_root_.cond_true,Bool.true_and];exact ih (i+1) (by omega) (by omega)
     | false=>
       have:(0:Int)≤i:=by omega
       simp only [_root_.cond_false,Bool.false_and,this,decide_true,Bool.not_true]
   · rw [if_neg (by omega),List.drop_of_length_le (by omega)]
     rfl
theorem right_p (hp:Low p) {N:Nat} (hN:250≤N):spots_Right_g N p=some (okB p):=by
 have h1:=hp.sets
 have h2:=hp.next
 have h3:=hp.first
 have h4:=hp.last
 have f:spots_rising_g N p.First p.Sets.length=some (rs p.Sets.length (-1) p.First):=rising_p (by omega) N 0 (-1) (by omega) (by omega)
 have g:spots_rising_g N p.Last p.Sets.length=some (rs p.Sets.length (-1) p.Last):=rising_p (by omega) N 0 (-1) (by omega) (by omega)
 have r:spots_Right_l3 N p N 0=some (p.Next.all (rs p.Sets.length (-1))):=right_l hp hN N 0 (by omega) (by omega)
 unfold spots_Right_g okB
 simp only [cm_gtr,ll_eq,cond_dec,cm_neq,cond_not,f,g,r,Option.bind_some]
 have c:¬(512:Int)<p.Sets.length:=by omega
 simp only [c,if_false,decide_false,Bool.not_false,Bool.true_and]
 by_cases c2:(p.Next.length:Int)=p.Sets.length
 · simp only [c2,if_true,decide_true,Bool.true_and]
   cases rs p.Sets.length (-1) p.First<;>cases rs p.Sets.length (-1) p.Last<;>rfl
 · simp only [c2,if_false,decide_false,Bool.false_and];rfl
end Pl
end Go.Proofs.YtjhbgkakhaonaaaGreatDoor
namespace Go.Proofs.YtjhbgkakhaonaaaGreatDoor
open Go
open Sh Gn
namespace Pl
def pickL (many:Nat) (f:Int→Bool):List Int:=((List.range many).map Int.ofNat).filter f
theorem mem_pick {many:Nat} {f:Int→Bool} {x:Int}:x∈pickL many f↔(0≤x∧x<many)∧f x=true:=by
 unfold pickL
 rw [List.mem_filter,List.mem_map]
 constructor
 · rintro ⟨⟨n,hn,rfl⟩,h⟩
   have:=List.mem_range.1 hn
   exact ⟨⟨by simp,by simpa using this⟩,h⟩
 · rintro ⟨⟨h1,h2⟩,h⟩
   exact ⟨⟨x.toNat,List.mem_range.2 (by omega),by simp;omega⟩,h⟩
theorem pick_congr {many:Nat} {f g:Int→Bool} (h:∀x:Int,0≤x→x<(many:Int)→f x=g x):pickL many f=pickL many g:=by
 unfold pickL
 refine List.filter_congr fun x hx=>?_
 obtain ⟨n,hn,rfl⟩:=List.mem_map.1 hx
 have:=List.mem_range.1 hn
 exact h _ (by simp) (by simpa using this)
theorem pick_len {many:Nat} {f:Int→Bool}:(pickL many f).length≤many:=by
 unfold pickL
 refine Nat.le_trans (List.length_filter_le _ _) ?_
 simp
def pickF (i many:Nat) (f:Int→Bool):List Int:=(((List.range many).drop i).map Int.ofNat).filter f
theorem pickF_0 {many:Nat} {f:Int→Bool}:pickF 0 many f=pickL many f:=rfl
theorem pickF_s {i many:Nat} {f:Int→Bool} (h:i<many):pickF i many f=if f i then (i:Int)::pickF (i+1) many f else pickF (i+1) many f:=by
 unfold pickF
 rw [List.drop_eq_getElem_cons (by simpa using h),List.map_cons,List.filter_cons,List.getElem_range]
 rfl
theorem pickF_e {many:Nat} {f:Int→Bool}:pickF many many f=[]:=by
 unfold pickF
 rw [List.drop_of_length_le (by simp)]
 rfl
def nextOf (p:GSpots) (k:Int):List Int:=p.Next.getD k.toNat []
def hasB (p:GSpots) (c:UInt8) (k:Int):Bool:=match p.Sets[k.toNat]? with
 | some S=>S.has c.toNat
 | none=>false
def nowL (p:GSpots) (c:UInt8) (l:List Int):List Int:=l.filter (hasB p c)
def stepL (p:GSpots) (l:List Int):List Int:=pickL p.Sets.length fun n=>decide (n∈l.flatMap (nextOf p))
def runL (p:GSpots):List UInt8→List Int→List Int→List Int
 | [],_,now=>now
 | c::s,l,_=>runL p s (stepL p (nowL p c l)) (nowL p c l)
def matchB (p:GSpots) (s:ByteArray):Bool:=if okB p then (if s=ByteArray.empty then p.None else (runL p s.data.toList p.First []).any fun k=>decide (k∈p.Last)) else false
def Fit (p:GSpots) (l:List Int):Prop:=l.length≤200∧∀x∈l,0≤x∧x<(p.Sets.length:Int)
variable {p:GSpots}
structure Ok (p:GSpots):Prop where
 low:Low p
 len:p.Next.length=p.Sets.length
 first:Fit p p.First
 last:Fit p p.Last
 each:∀l∈p.Next,Fit p l
theorem ok_of (hp:Low p) (h:okB p=true):Ok p:=by
 unfold okB at h
 simp only [Bool.and_eq_true,decide_eq_true_eq,List.all_eq_true] at h
 obtain ⟨-,h1,h2,h3,h4⟩:=h
 exact ⟨hp,by omega,⟨hp.first,fun x hx=>rs_in h2 (by omega) x hx⟩,⟨hp.last,fun x hx=>rs_in h3 (by omega) x hx⟩,fun l hl=>⟨hp.each l hl,fun x hx=>rs_in (h4 l hl) (by omega) x hx⟩⟩
theorem Ok.next_at (hp:Ok p) {k:Int} (h:0≤k∧k<p.Sets.length):at_ p.Next k=some (nextOf p k)∧Fit p (nextOf p k):=by
 have hl:=hp.len
 obtain ⟨y,h1,h2⟩:=at_int (l:=p.Next) (x:=k) h.1 (by omega)
 have e:nextOf p k=y:=by unfold nextOf;rw [List.getD_eq_getElem?_getD,h2];rfl
 rw [e]
 exact ⟨h1,hp.each _ (List.mem_of_getElem? h2)⟩
theorem fit_pick (hp:Low p) {f:Int→Bool}:Fit p (pickL p.Sets.length f):=by
 have:=hp.sets
 exact ⟨Nat.le_trans pick_len (by omega),fun x hx=>(mem_pick.1 hx).1⟩
def Mk (many:Nat) (b:List Bool) (acc:List Int):Prop:=b.length=many∧∀k:Nat,k<many→b[k]?=some (decide ((k:Int)∈acc))
theorem mk_0 {many:Nat}:Mk many (List.replicate many false) []:=⟨by simp,fun k hk=>by rw [List.getElem?_replicate,if_pos hk];simp⟩
theorem mk_at {many:Nat} {b:List Bool} {acc:List Int} (h:Mk many b acc) {x:Int} (hx:0≤x∧x<many):at_ b x=some (decide (x∈acc)):=by
 obtain ⟨k,rfl⟩:=Int.eq_ofNat_of_zero_le hx.1
 rw [at_nat]
 exact h.2 k (by omega)
theorem mk_set {many:Nat} {b:List Bool} {acc:List Int} (h:Mk many b acc) {x:Int} (hx:0≤x∧x<many):Mk many (b.set x.toNat true) (acc++[x]):=by
 refine ⟨by rw [List.length_set];exact h.1,fun k hk=>?_⟩
 by_cases e:x.toNat=k
 · rw [e,List.getElem?_set_self (by rw [h.1];exact hk),decide_eq_true]
   rw [List.mem_append];right
   rw [List.mem_singleton];omega
 · rw [List.getElem?_set_ne e,h.2 k hk]
   congr 1
   rw [decide_eq_decide,List.mem_append,List.mem_singleton]
   exact ⟨.inl,fun h=>h.resolve_right (by omega)⟩
end Pl
end Go.Proofs.YtjhbgkakhaonaaaGreatDoor
namespace Go.Proofs.YtjhbgkakhaonaaaGreatDoor
open Go
namespace Mx
abbrev Pos:=Nat→Bool
def zr:Pos:=fun _=>false
def orP (a b:Pos):Pos:=fun j=>a j||b j
def single (i:Nat):Pos:=fun j=>j==i
def one (S:CSet) (s:List UInt8) (x:Pos):Pos:=fun j=>match j with
 | 0=>false
 | i+1=>x i&&(match s[i]? with | some c=>S.has c.toNat | _=>false)
def iter (f:Pos→Pos):Nat→Pos→Pos
 | 0,x=>x
 | k+1,x=>iter f k (f x)
def upto (f:Pos→Pos):Nat→Pos→Pos
 | 0,x=>x
 | k+1,x=>orP x (f (upto f k x))
def more (long:Nat) (mn mx:Int):Nat:=if mx=-1 then long else (mx-mn).toNat
mutual
def sp (s:List UInt8):Node→Pos→Pos
 | .mk k S kids mn mx=>fun x=>if k=1 then one S s x else if k=2 then spCat s kids x else if k=3 then spAlt s kids x else spRep s kids mn mx x
def spCat (s:List UInt8):List Node→Pos→Pos
 | []=>fun x=>x
 | n::r=>fun x=>spCat s r (sp s n x)
def spAlt (s:List UInt8):List Node→Pos→Pos
 | []=>fun _=>zr
 | n::r=>fun x=>orP (sp s n x) (spAlt s r x)
def spRep (s:List UInt8) (kids:List Node) (mn mx:Int):Pos→Pos:=match kids with
 | []=>fun _=>zr
 | n::_=>fun x=>upto (sp s n) (more s.length mn mx) (iter (sp s n) mn.toNat x)
end
structure Adds (f:Pos→Pos):Prop where
 or_:∀a b,f (orP a b)=orP (f a) (f b)
 none_:f zr=zr
theorem or_none (a:Pos):orP a zr=a:=by funext j;simp [orP,zr]
theorem none_or (a:Pos):orP zr a=a:=by funext j;simp [orP,zr]
theorem or_self (a:Pos):orP a a=a:=by funext j;simp [orP]
theorem or_comm (a b:Pos):orP a b=orP b a:=by funext j;simp [orP,Bool.or_comm]
theorem or_assoc (a b c:Pos):orP (orP a b) c=orP a (orP b c):=by funext j;simp [orP,Bool.or_assoc]
theorem or_four (a b c d:Pos):orP (orP a b) (orP c d)=orP (orP a c) (orP b d):=by
 funext j;simp only [orP];cases a j<;>cases b j<;>cases c j<;>cases d j<;>rfl
theorem adds_one (S:CSet) (s:List UInt8):Adds (one S s) where
 or_ a b:=by
  funext j
  cases j with
  | zero=>rfl
  | succ i=>simp only [one,orP];cases a i<;>cases b i<;>simp
 none_:=by funext j;cases j<;>simp [one,zr]
theorem Adds.comp {f g:Pos→Pos} (hf:Adds f) (hg:Adds g):Adds (fun x=>g (f x)):=⟨fun a b=>by rw [hf.or_,hg.or_],by rw [hf.none_,hg.none_]⟩
theorem Adds.id:Adds (fun x=>x):=⟨fun _ _=>rfl,rfl⟩
theorem Adds.zr:Adds (fun _=>zr):=⟨fun _ _=>(or_self _).symm,rfl⟩
theorem Adds.orP {f g:Pos→Pos} (hf:Adds f) (hg:Adds g):Adds (fun x=>orP (f x) (g x)):=⟨fun a b=>by rw [hf.or_,hg.or_,or_four],by rw [hf.none_,hg.none_,or_self]⟩
theorem Adds.iter {f:Pos→Pos} (hf:Adds f):∀k,Adds (iter f k)
 | 0=>Adds.id
 | k+1=>hf.comp (Adds.iter hf k)
theorem Adds.upto {f:Pos→Pos} (hf:Adds f):∀k,Adds (upto f k)
 | 0=>Adds.id
 | k+1=>Adds.orP Adds.id ((Adds.upto hf k).comp hf)
mutual
theorem adds_sp (s:List UInt8):∀n,Adds (sp s n)
 | .mk k S kids mn mx=>by
   unfold sp
   by_cases h1:k=1
   · simp only [h1,if_true];exact adds_one S s
   · by_cases h2:k=2
     · simp only [h2];exact adds_cat s kids
     · by_cases h3:k=3
       · simp only [h3];exact adds_alt s kids
       · simp only [h1,h2,h3,if_false];exact adds_rep s kids mn mx
theorem adds_cat (s:List UInt8):∀l,Adds (spCat s l)
 | []=>by unfold spCat;exact Adds.id
 | n::r=>by unfold spCat;exact (adds_sp s n).comp (adds_cat s r)
theorem adds_alt (s:List UInt8):∀l,Adds (spAlt s l)
 | []=>by unfold spAlt;exact Adds.zr
 | n::r=>by unfold spAlt;exact Adds.orP (adds_sp s n) (adds_alt s r)
theorem adds_rep (s:List UInt8):∀(kids:List Node) (mn mx:Int),Adds (spRep s kids mn mx)
 | [],_,_=>by unfold spRep;exact Adds.zr
 | n::_,mn,mx=>by unfold spRep;exact ((adds_sp s n).iter _).comp ((adds_sp s n).upto _)
end
def Sup (N:Nat) (x:Pos):Prop:=∀j,N≤j→x j=false
def Keeps (N:Nat) (f:Pos→Pos):Prop:=∀x,Sup N x→Sup N (f x)
theorem sup_none (N:Nat):Sup N zr:=fun _ _=>rfl
theorem Sup.orP {N:Nat} {a b:Pos} (ha:Sup N a) (hb:Sup N b):Sup N (orP a b):=fun j hj=>by simp [Mx.orP,ha j hj,hb j hj]
theorem sup_single {N i:Nat} (h:i<N):Sup N (single i):=fun j hj=>by simp [single];omega
theorem keeps_one (S:CSet) (s:List UInt8):Keeps (s.length+1) (one S s):=fun x _ j hj=>by
 cases j with
 | zero=>omega
 | succ i=>simp only [one];rw [List.getElem?_eq_none (by omega)];simp
theorem Keeps.iter {N:Nat} {f:Pos→Pos} (hf:Keeps N f):∀k,Keeps N (iter f k)
 | 0=>fun _ h=>h
 | k+1=>fun x h=>Keeps.iter hf k _ (hf x h)
theorem Keeps.upto {N:Nat} {f:Pos→Pos} (hf:Keeps N f):∀k,Keeps N (upto f k)
 | 0=>fun _ h=>h
 | k+1=>fun x h=>h.orP (hf _ (Keeps.upto hf k x h))
mutual
theorem keeps_sp (s:List UInt8):∀n,Keeps (s.length+1) (sp s n)
 | .mk k S kids mn mx=>by
   unfold sp
   by_cases h1:k=1
   · simp only [h1,if_true];exact keeps_one S s
   · by_cases h2:k=2
     · simp only [h2];exact keeps_cat s kids
     · by_cases h3:k=3
       · simp only [h3];exact keeps_alt s kids
       · simp only [h1,h2,h3,if_false];exact keeps_rep s kids mn mx
theorem keeps_cat (s:List UInt8):∀l,Keeps (s.length+1) (spCat s l)
 | []=>by unfold spCat;exact fun _ h=>h
 | n::r=>by unfold spCat;exact fun x h=>keeps_cat s r _ (keeps_sp s n x h)
theorem keeps_alt (s:List UInt8):∀l,Keeps (s.length+1) (spAlt s l)
 | []=>by unfold spAlt;exact fun _ _=>sup_none _
 | n::r=>by unfold spAlt;exact fun x h=>(keeps_sp s n x h).orP (keeps_alt s r x h)
theorem keeps_rep (s:List UInt8):∀(kids:List Node) (mn mx:Int),Keeps (s.length+1) (spRep s kids mn mx)
 | [],_,_=>by unfold spRep;exact fun _ _=>sup_none _
 | n::_,mn,mx=>by unfold spRep;exact fun x h=>(keeps_sp s n).upto _ _ ((keeps_sp s n).iter _ _ h)
end
def Le (a b:Pos):Prop:=∀j,a j=true→b j=true
theorem le_or_left (a b:Pos):Le a (orP a b):=fun j h=>by simp [orP,h]
theorem or_of_le {a b:Pos} (h:Le b a):orP a b=a:=by
 funext j
 simp only [orP]
 cases hb:b j
 · simp
 · simp [h j hb]
theorem Le.antisymm {a b:Pos} (h:Le a b) (h':Le b a):a=b:=by
 funext j
 cases ha:a j
 · cases hb:b j
   · rfl
   · rw [h' j hb] at ha;cases ha
 · rw [h j ha]
theorem iter_succ (f:Pos→Pos):∀k x,iter f (k+1) x=f (iter f k x)
 | 0,_=>rfl
 | k+1,x=>iter_succ f k (f x)
theorem upto_succ {f:Pos→Pos} (hf:Adds f):∀k x,upto f (k+1) x=orP (upto f k x) (iter f (k+1) x)
 | 0,x=>rfl
 | k+1,x=>by
   show orP x (f (upto f (k+1) x))=orP (orP x (f (upto f k x))) (iter f (k+2) x)
   rw [upto_succ hf k x,hf.or_,←or_assoc,←iter_succ f (k+1) x]
theorem upto_le {f:Pos→Pos} (hf:Adds f) (k:Nat) (x:Pos):Le (upto f k x) (upto f (k+1) x):=by rw [upto_succ hf];exact le_or_left _ _
theorem upto_stop {f:Pos→Pos} {k:Nat} {x:Pos} (h:upto f (k+1) x=upto f k x):∀m,k≤m→upto f m x=upto f k x:=by
 intro m hm
 induction m with
 | zero => obtain rfl:k=0:=by omega
           rfl
 | succ m ih=>
   rcases Nat.lt_or_ge k (m+1) with h1 | h1
   · have h2:=ih (by omega)
     show orP x (f (upto f m x))=_
     rw [h2]
     exact h
   · obtain rfl:k=m+1:=by omega
     rfl
def cnt (N:Nat) (x:Pos):Nat:=(List.range N).countP x
theorem cnt_le (N:Nat) (x:Pos):cnt N x≤N:=by unfold cnt;have:=List.countP_le_length (p:=x) (l:=List.range N);simpa using this
theorem cnt_lt {N:Nat} {a b:Pos} (h:Le a b) (hb:Sup N b) (hne:a≠b):cnt N a<cnt N b:=by
 have hex:∃j,a j=false∧b j=true:=Classical.byContradiction fun hno=>hne (h.antisymm fun j hj=>by
  cases ha:a j
  · exact absurd ⟨j,ha,hj⟩ hno
  · rfl)
 obtain ⟨j,h1,h2⟩:=hex
 have hj:j<N:=Nat.lt_of_not_le fun h3=>by rw [hb j h3] at h2;cases h2
 unfold cnt
 have key:∀(l:List Nat),l.countP a≤l.countP b∧(j∈l→l.countP a<l.countP b):=by
  intro l
  induction l with
  | nil=>exact ⟨Nat.le_refl _,fun h=>by cases h⟩
  | cons i r ih=>
    rw [List.countP_cons,List.countP_cons]
    refine ⟨?_,fun hm=>?_⟩
    · cases hai:a i
      · have:=ih.1;simp;omega
      · rw [h i hai];have:=ih.1;simp;omega
    · rcases List.mem_cons.1 hm with rfl | hm
      · rw [h1,h2];have:=ih.1;simp;omega
      · have:=ih.2 hm
        cases hai:a i
        · simp;omega
        · rw [h i hai];simp;omega
 exact (key _).2 (by simpa using hj)
theorem cnt_upto {f:Pos→Pos} {N:Nat} (hf:Adds f) (hk:Keeps N f) {x:Pos} (hx:Sup N x) (hne:x≠zr):∀k,upto f (k+1) x≠upto f k x→k+2≤cnt N (upto f (k+1) x)
 | 0,h=>by
   have h1:0<cnt N x:=by have:=cnt_lt (a:=zr) (b:=x) (fun j h=>by cases h) hx (Ne.symm hne);omega
   have h2:=cnt_lt (upto_le hf 0 x) (hk.upto 1 x hx) (Ne.symm h)
   have h3:upto f 0 x=x:=rfl
   rw [h3] at h2
   omega
 | k +1,h=>by
   by_cases h0:upto f (k+1) x=upto f k x
   · exact absurd ((upto_stop h0 (k+2) (by omega)).trans (upto_stop h0 (k+1) (by omega)).symm) h
   · have h1:=cnt_upto hf hk hx hne k h0
     have h2:=cnt_lt (upto_le hf (k+1) x) (hk.upto (k+2) x hx) (Ne.symm h)
     omega
theorem upto_full {f:Pos→Pos} {N:Nat} (hf:Adds f) (hk:Keeps (N+1) f) {x:Pos} (hx:Sup (N+1) x):∀m,N≤m→upto f m x=upto f N x:=by
 by_cases hne:x=zr
 · subst hne
   intro m _
   rw [(hf.upto m).none_,(hf.upto N).none_]
 · refine upto_stop (Classical.byContradiction fun h=>?_)
   have h1:=cnt_upto hf hk hx hne N h
   have h2:=cnt_le (N+1) (upto f (N+1) x)
   omega
theorem sp_any {f:Pos→Pos} (hf:Adds f) {N:Nat} {x:Pos} (hx:Sup N x) (j:Nat):f x j=(List.range N).any (fun i=>x i&&f (single i) j):=by
 have key:∀k,f (fun i=>decide (i<k)&&x i) j=(List.range k).any (fun i=>x i&&f (single i) j):=by
  intro k
  induction k with
  | zero=>rw [show (fun i=>decide (i<0)&&x i)=zr by funext i;simp [zr],hf.none_];rfl
  | succ k ih=>
    rw [List.range_succ,List.any_append,←ih]
    have e:(fun i=>decide (i<k+1)&&x i)=orP (fun i=>decide (i<k)&&x i) (if x k then single k else zr):=by
     funext i
     simp only [orP]
     by_cases h1:i=k
     · subst h1;cases hx:x i<;>simp [single,zr]
     · have h2:decide (i<k+1)=decide (i<k):=by rw [decide_eq_decide];omega
       rw [h2]
       cases hx:x k<;>simp [single,zr,h1]
    rw [e,hf.or_]
    simp only [orP,List.any_cons,List.any_nil,Bool.or_false]
    cases x k
    · simp [hf.none_,zr]
    · simp
 rw [←key N]
 congr 1
 funext i
 by_cases h:i<N
 · simp [h]
 · simp [h,hx i (by omega)]
end Mx
end Go.Proofs.YtjhbgkakhaonaaaGreatDoor
namespace Go.Proofs.YtjhbgkakhaonaaaGreatDoor
open Go
namespace Rx
structure Emb (l m:List UInt8) (k:Nat) (c:Int):Prop where
 at_:∀i,i<l.length→pk m (i+k)=pk l i
 end_:pk m (l.length+k)=c
 len:l.length+k≤m.length
 term:c=-1∨c=41∨c=124
section
variable {l m:List UInt8} {k:Nat} {c:Int}
theorem Emb.get (E:Emb l m k c) {i:Nat} (h:pk l i≠-1):pk m (i+k)=pk l i:=E.at_ i (pk_in h)
def Sim {α:Type} (k:Nat) (L:Prop) (r r':Res α):Prop:=∀a p,r=.ok a p→r'=.ok a (p+k)∨(L∧∃q,r'=.bad 3 q)
variable {at1 at2:Nat→Res Node} {L:Prop}
variable (hf:∀i,i≤l.length→Fine l i (at1 i)) (ha:∀i,i≤l.length→Sim k L (at1 i) (at2 (i+k)))
include hf ha
end
end Rx
namespace Rx
def Bads {α:Type} (l:List UInt8) (r:Res α):Prop:=∀e p,r=.bad e p→(e=1∨e=2∨e=3)∧p≤l.length
variable {l:List UInt8}
end Rx
end Go.Proofs.YtjhbgkakhaonaaaGreatDoor
namespace Go.Proofs.YtjhbgkakhaonaaaGreatDoor
open Go
namespace Rx
def timesB (lo hi:Int):Bool:=if lo<0||lo>16||hi>16||hi< -1||hi==0 then false else hi== -1||hi≥lo
def topB (kind:Int) (S:CSet) (many:Nat) (mn mx:Int):Bool:=
 (kind==1||kind==2||kind==3||kind==4)&&(kind==1||decide (S=CSet.empty))&&(kind==4||mn==0&&mx==0)&&
 (if kind==1 then many==0 else if kind==2 then many != 1 else if kind==3 then decide (many>1) else many==1&&timesB mn mx)
mutual
def right:Node→Bool
 | .mk kind S kids mn mx=>topB kind S kids.length mn mx&&rights kind kids
def rights (kind:Int):List Node→Bool
 | []=>true
 | n::r=>(right n&& !(n.kind==kind&&kind != 4))&&rights kind r
end
theorem right_eq (n:Node):right n=(topB n.kind n.set n.kids.length n.min n.max&&rights n.kind n.kids):=by cases n;rw [right]<;>rfl
theorem rights_iff (kind:Int) (ns:List Node):rights kind ns=true↔∀n∈ns,right n=true∧¬(n.kind=kind∧kind≠4):=by
 induction ns with
 | nil=>simp [rights]
 | cons a r ih=>rw [rights,Bool.and_eq_true,ih];simp;intro _;omega
variable {l:List UInt8}
end Rx
end Go.Proofs.YtjhbgkakhaonaaaGreatDoor
namespace Go.Proofs.YtjhbgkakhaonaaaGreatDoor
open Go
namespace Mx
abbrev Lg:=List UInt8→Prop
def lnil:Lg:=fun w=>w=[]
def lcat (A B:Lg):Lg:=fun w=>∃u v,w=u++v∧A u∧B v
def lpow (A:Lg):Nat→Lg
 | 0=>lnil
 | k+1=>lcat A (lpow A k)
mutual
def lang:Node→Lg
 | .mk k S kids mn mx=>fun w=>if k=1 then ∃c,w=[c]∧S.has c.toNat=true else if k=2 then langCat kids w else if k=3 then langAlt kids w else langRep kids mn mx w
def langCat:List Node→Lg
 | []=>lnil
 | n::r=>fun w=>∃u v,w=u++v∧lang n u∧langCat r v
def langAlt:List Node→Lg
 | []=>fun _=>False
 | n::r=>fun w=>lang n w∨langAlt r w
def langRep (kids:List Node) (mn mx:Int):Lg:=match kids with
 | []=>fun _=>False
 | n::_=>fun w=>∃k:Nat,mn.toNat≤k∧(mx=-1∨(k:Int)≤mx)∧lpow (lang n) k w
end
theorem lang1 (S:CSet) (kids:List Node) (mn mx:Int) (w:List UInt8):lang (.mk 1 S kids mn mx) w↔∃c,w=[c]∧S.has c.toNat=true:=by unfold lang;simp
theorem lang2 (S:CSet) (kids:List Node) (mn mx:Int) (w:List UInt8):lang (.mk 2 S kids mn mx) w↔langCat kids w:=by rw [lang];simp
theorem lang3 (S:CSet) (kids:List Node) (mn mx:Int) (w:List UInt8):lang (.mk 3 S kids mn mx) w↔langAlt kids w:=by rw [lang];simp
theorem lang4 {k:Int} (h1:k≠1) (h2:k≠2) (h3:k≠3) (S:CSet) (kids:List Node) (mn mx:Int) (w:List UInt8):lang (.mk k S kids mn mx) w↔langRep kids mn mx w:=by rw [lang];simp [h1,h2,h3]
theorem langCat_cons (n:Node) (r:List Node) (w:List UInt8):langCat (n::r) w↔lcat (lang n) (langCat r) w:=by rw [langCat];rfl
theorem langAlt_cons (n:Node) (r:List Node) (w:List UInt8):langAlt (n::r) w↔(lang n w∨langAlt r w):=by rw [langAlt]
theorem langRep_cons (n:Node) (r:List Node) (mn mx:Int) (w:List UInt8):langRep (n::r) mn mx w↔∃k:Nat,mn.toNat≤k∧(mx=-1∨(k:Int)≤mx)∧lpow (lang n) k w:=by rw [langRep]
def seg (s:List UInt8) (i j:Nat):List UInt8:=(s.drop i).take (j-i)
theorem seg_len {s:List UInt8} {i j:Nat} (hi:i≤j) (hj:j≤s.length):(seg s i j).length=j-i:=by unfold seg;rw [List.length_take,List.length_drop];omega
theorem seg_split {s:List UInt8} {i m j:Nat} (h1:i≤m) (h2:m≤j) (_hj:j≤s.length):seg s i j=seg s i m++seg s m j:=by
 unfold seg
 have e:j-i=(m-i)+(j-m):=by omega
 rw [e,List.take_add,List.drop_drop,show i+(m-i)=m by omega]
theorem seg_all (s:List UInt8):seg s 0 s.length=s:=by unfold seg;simp
theorem seg_nil {s:List UInt8} {i j:Nat} (hi:i≤j) (hj:j≤s.length):seg s i j=[]↔i=j:=by
 rw [←List.length_eq_zero_iff,seg_len hi hj];omega
structure Sem (s:List UInt8) (f:Pos→Pos) (A:Lg):Prop where
 adds:Adds f
 keeps:Keeps (s.length+1) f
 spec:∀i j,i≤s.length→(f (single i) j=true↔i≤j∧j≤s.length∧A (seg s i j))
theorem Sem.of_iff {s:List UInt8} {f:Pos→Pos} {A B:Lg} (h:Sem s f A) (e:∀w,A w↔B w):Sem s f B:=⟨h.adds,h.keeps,fun i j hi=>by rw [h.spec i j hi,e]⟩
theorem sem_nil (s:List UInt8):Sem s (fun x=>x) lnil where
 adds:=Adds.id
 keeps:=fun _ h=>h
 spec i j hi:=by
  simp only [single,beq_iff_eq,lnil]
  constructor
  · rintro rfl;exact ⟨Nat.le_refl _,hi,(seg_nil (Nat.le_refl _) hi).2 rfl⟩
  · rintro ⟨h1,h2,h3⟩;exact ((seg_nil h1 h2).1 h3).symm
theorem sem_none (s:List UInt8):Sem s (fun _=>zr) (fun _=>False) where
 adds:=Adds.zr
 keeps:=fun _ _=>sup_none _
 spec i j hi:=by simp [zr]
theorem Sem.or {s:List UInt8} {f g:Pos→Pos} {A B:Lg} (hf:Sem s f A) (hg:Sem s g B):Sem s (fun x=>orP (f x) (g x)) (fun w=>A w∨B w) where
 adds:=Adds.orP hf.adds hg.adds
 keeps:=fun x h=>(hf.keeps x h).orP (hg.keeps x h)
 spec i j hi:=by
  simp only [orP,Bool.or_eq_true,hf.spec i j hi,hg.spec i j hi]
  constructor
  · rintro (⟨a,b,c⟩ | ⟨a,b,c⟩)
    · exact ⟨a,b,Or.inl c⟩
    · exact ⟨a,b,Or.inr c⟩
  · rintro ⟨a,b,c | c⟩
    · exact Or.inl ⟨a,b,c⟩
    · exact Or.inr ⟨a,b,c⟩
theorem lcat_seg {s:List UInt8} {A B:Lg} {i j:Nat} (hi:i≤j) (hj:j≤s.length):lcat A B (seg s i j)↔∃m,i≤m∧m≤j∧A (seg s i m)∧B (seg s m j):=by
 constructor
 · rintro ⟨u,v,e,hu,hv⟩
   have hl:u.length+v.length=j-i:=by rw [←seg_len hi hj,e,List.length_append]
   have hs:=seg_split (s:=s) (i:=i) (m:=i+u.length) (j:=j) (by omega) (by omega) hj
   rw [e] at hs
   have h1:u.length=(seg s i (i+u.length)).length:=by rw [seg_len (by omega) (by omega)];omega
   obtain ⟨h2,h3⟩:=List.append_inj hs h1
   exact ⟨i+u.length,by omega,by omega,h2▸hu,h3▸hv⟩
 · rintro ⟨m,h1,h2,h3,h4⟩
   exact ⟨_,_,seg_split h1 h2 hj,h3,h4⟩
theorem Sem.comp {s:List UInt8} {f g:Pos→Pos} {A B:Lg} (hf:Sem s f A) (hg:Sem s g B):Sem s (fun x=>g (f x)) (lcat A B) where
 adds:=hf.adds.comp hg.adds
 keeps:=fun x h=>hg.keeps _ (hf.keeps x h)
 spec i j hi:=by
  have hsup:Sup (s.length+1) (f (single i)):=hf.keeps _ (sup_single (by omega))
  show g (f (single i)) j=true↔_
  rw [sp_any hg.adds hsup j,List.any_eq_true]
  constructor
  · rintro ⟨m,hm,h⟩
    rw [Bool.and_eq_true] at h
    obtain ⟨a,b,c⟩:=(hf.spec i m hi).1 h.1
    obtain ⟨a',b',c'⟩:=(hg.spec m j b).1 h.2
    exact ⟨by omega,b',(lcat_seg (by omega) b').2 ⟨m,a,a',c,c'⟩⟩
  · rintro ⟨a,b,c⟩
    obtain ⟨m,h1,h2,h3,h4⟩:=(lcat_seg a b).1 c
    exact ⟨m,List.mem_range.2 (by omega),by rw [Bool.and_eq_true];exact ⟨(hf.spec i m hi).2 ⟨h1,by omega,h3⟩,(hg.spec m j (by omega)).2 ⟨h2,b,h4⟩⟩⟩
theorem Sem.iter {s:List UInt8} {f:Pos→Pos} {A:Lg} (hf:Sem s f A):∀k,Sem s (iter f k) (lpow A k)
 | 0=>sem_nil s
 | k+1=>hf.comp (Sem.iter hf k)
theorem iter_add (f:Pos→Pos):∀a b x,Mx.iter f b (Mx.iter f a x)=Mx.iter f (a+b) x
 | 0,b,x=>by rw [Nat.zero_add];rfl
 | a+1,b,x=>by
   show Mx.iter f b (Mx.iter f a (f x))=_
   rw [iter_add f a b (f x),show a+1+b=(a+b)+1 by omega]
   rfl
theorem upto_iff {f:Pos→Pos} (hf:Adds f) (x:Pos) (j:Nat):∀M,upto f M x j=true↔∃k,k≤M∧Mx.iter f k x j=true
 | 0 =>by
   constructor
   · intro h;exact ⟨0,Nat.le_refl _,h⟩
   · rintro ⟨k,hk,h⟩
     obtain rfl:k=0:=by omega
     exact h
 | M + 1=>by
   rw [upto_succ hf]
   simp only [orP,Bool.or_eq_true,upto_iff hf x j M]
   constructor
   · rintro (⟨k,hk,h⟩ | h)
     · exact ⟨k,by omega,h⟩
     · exact ⟨M+1,Nat.le_refl _,h⟩
   · rintro ⟨k,hk,h⟩
     rcases Nat.lt_or_ge k (M+1) with h1 | h1
     · exact Or.inl ⟨k,by omega,h⟩
     · obtain rfl:k=M+1:=by omega
       exact Or.inr h
theorem upto_mono {f:Pos→Pos} (hf:Adds f) (x:Pos) {a b:Nat} (h:a≤b) (j:Nat) (hj:upto f a x j=true):upto f b x j=true:=by
 obtain ⟨k,h1,h2⟩:=(upto_iff hf x j a).1 hj
 exact (upto_iff hf x j b).2 ⟨k,by omega,h2⟩
def Times (mn mx:Int):Prop:=0≤mn∧(mx=-1∨mn≤mx)
theorem Sem.rep {s:List UInt8} {f:Pos→Pos} {A:Lg} (hf:Sem s f A) {mn mx:Int} (ht:Times mn mx):Sem s (fun x=>upto f (more s.length mn mx) (Mx.iter f mn.toNat x)) (fun w=>∃k:Nat,mn.toNat≤k∧(mx=-1∨(k:Int)≤mx)∧lpow A k w) where
 adds:=(hf.adds.iter _).comp (hf.adds.upto _)
 keeps:=fun x h=>hf.keeps.upto _ _ (hf.keeps.iter _ _ h)
 spec i j hi:=by
  have hsup:Sup (s.length+1) (Mx.iter f mn.toNat (single i)):=hf.keeps.iter _ _ (sup_single (by omega))
  obtain ⟨h0,h1⟩:=ht
  show upto f (more s.length mn mx) (Mx.iter f mn.toNat (single i)) j=true↔_
  have key:upto f (more s.length mn mx) (Mx.iter f mn.toNat (single i)) j=true↔∃k:Nat,mn.toNat≤k∧(mx=-1∨(k:Int)≤mx)∧Mx.iter f k (single i) j=true:=by
   constructor
   · intro h
     obtain ⟨k,hk,h2⟩:=(upto_iff hf.adds _ j _).1 h
     rw [iter_add] at h2
     refine ⟨mn.toNat+k,by omega,?_,h2⟩
     unfold more at hk
     split at hk
     · left;assumption
     · right;omega
   · rintro ⟨k,h2,h3,h4⟩
     have h5:upto f (k-mn.toNat) (Mx.iter f mn.toNat (single i)) j=true:=(upto_iff hf.adds _ j _).2 ⟨k-mn.toNat,Nat.le_refl _,by rw [iter_add,show mn.toNat+(k-mn.toNat)=k by omega];exact h4⟩
     unfold more
     split
     · rcases Nat.le_total (k-mn.toNat) s.length with h6 | h6
       · exact upto_mono hf.adds _ h6 j h5
       · rw [←upto_full hf.adds hf.keeps hsup _ h6];exact h5
     · exact upto_mono hf.adds _ (by omega) j h5
  rw [key]
  constructor
  · rintro ⟨k,h2,h3,h4⟩
    obtain ⟨a,b,c⟩:=((hf.iter k).spec i j hi).1 h4
    exact ⟨a,b,k,h2,h3,c⟩
  · rintro ⟨a,b,k,h2,h3,c⟩
    exact ⟨k,h2,h3,((hf.iter k).spec i j hi).2 ⟨a,b,c⟩⟩
theorem sem_one (S:CSet) (s:List UInt8):Sem s (one S s) (fun w=>∃c,w=[c]∧S.has c.toNat=true) where
 adds:=adds_one S s
 keeps:=keeps_one S s
 spec i j hi:=by
  cases j with
  | zero=>
    simp only [one]
    constructor
    · intro h;cases h
    · rintro ⟨h1,h2,c,h3,_⟩
      have:=congrArg List.length h3
      rw [seg_len h1 h2] at this
      simp at this
  | succ j=>
    simp only [one,single,Bool.and_eq_true,beq_iff_eq]
    constructor
    · rintro ⟨rfl,h⟩
      have hj:j<s.length:=by
       rcases Nat.lt_or_ge j s.length with h1 | h1
       · exact h1
       · rw [List.getElem?_eq_none h1] at h;cases h
      rw [List.getElem?_eq_getElem hj] at h
      refine ⟨by omega,hj,s[j],?_,h⟩
      unfold seg
      rw [List.drop_eq_getElem_cons hj,show j+1-j=1 by omega]
      rfl
    · rintro ⟨h1,h2,c,h3,h4⟩
      have hl:=congrArg List.length h3
      rw [seg_len h1 h2] at hl
      simp at hl
      obtain rfl:i=j:=by omega
      have hj:i<s.length:=by omega
      refine ⟨rfl,?_⟩
      unfold seg at h3
      rw [List.drop_eq_getElem_cons hj,show i+1-i=1 by omega] at h3
      have h5:s[i]=c:=(List.cons.inj h3).1
      rw [List.getElem?_eq_getElem hj,h5]
      exact h4
theorem times_right {n:Node} (h:Rx.right n=true) (h1:n.kind≠1) (h2:n.kind≠2) (h3:n.kind≠3):Times n.min n.max:=by
 rw [Rx.right_eq,Bool.and_eq_true] at h
 have ht:=h.1
 unfold Rx.topB at ht
 simp [h1,h2,h3] at ht
 obtain ⟨_,_,ht⟩:=ht
 unfold Rx.timesB at ht
 split at ht
 · cases ht
 · rename_i hc
   simp at hc ht
   exact ⟨by omega,by omega⟩
mutual
theorem sem_sp (s:List UInt8):∀n,Rx.right n=true→Sem s (sp s n) (lang n)
 | .mk k S kids mn mx,hr=>by
   have hk:∀x∈kids,Rx.right x=true:=fun x hx=>by
    rw [Rx.right_eq,Bool.and_eq_true] at hr
    exact ((Rx.rights_iff _ _).1 hr.2 x hx).1
   by_cases h1:k=1
   · subst h1
     have e:sp s (.mk 1 S kids mn mx)=one S s:=by unfold sp;simp
     rw [e]
     exact (sem_one S s).of_iff (fun w=>by unfold lang;simp)
   · by_cases h2:k=2
     · subst h2
       have e:sp s (.mk 2 S kids mn mx)=spCat s kids:=by unfold sp;simp
       rw [e]
       exact (sem_cat s kids hk).of_iff (fun w=>by rw [lang2])
     · by_cases h3:k=3
       · subst h3
         have e:sp s (.mk 3 S kids mn mx)=spAlt s kids:=by unfold sp;simp
         rw [e]
         exact (sem_alt s kids hk).of_iff (fun w=>by rw [lang3])
       · have ht:Times mn mx:=times_right hr h1 h2 h3
         have e:sp s (.mk k S kids mn mx)=spRep s kids mn mx:=by unfold sp;simp [h1,h2,h3]
         rw [e]
         exact (sem_rep s kids hk mn mx ht).of_iff (fun w=>by rw [lang4 h1 h2 h3])
theorem sem_cat (s:List UInt8):∀l,(∀x∈l,Rx.right x=true)→Sem s (spCat s l) (langCat l)
 | [],_=>by unfold spCat;exact (sem_nil s).of_iff (fun w=>by unfold langCat;rfl)
 | n::r,h=>by
   unfold spCat
   exact ((sem_sp s n (h n (by simp))).comp (sem_cat s r (fun x hx=>h x (by simp [hx])))).of_iff (fun w=>by rw [langCat_cons])
theorem sem_alt (s:List UInt8):∀l,(∀x∈l,Rx.right x=true)→Sem s (spAlt s l) (langAlt l)
 | [],_=>by unfold spAlt;exact (sem_none s).of_iff (fun w=>by unfold langAlt;rfl)
 | n::r,h=>by
   unfold spAlt
   exact ((sem_sp s n (h n (by simp))).or (sem_alt s r (fun x hx=>h x (by simp [hx])))).of_iff (fun w=>by rw [langAlt_cons])
theorem sem_rep (s:List UInt8):∀(kids:List Node),(∀x∈kids,Rx.right x=true)→∀mn mx,Times mn mx→Sem s (spRep s kids mn mx) (langRep kids mn mx)
 | [],_,_,_,_=>by unfold spRep;exact (sem_none s).of_iff (fun w=>by unfold langRep;rfl)
 | n::_,h,mn,mx,ht=>by
   unfold spRep
   exact ((sem_sp s n (h n (by simp))).rep ht).of_iff (fun w=>by rw [langRep_cons])
end
theorem sp_whole {n:Node} (h:Rx.right n=true) (s:List UInt8):sp s n (single 0) s.length=true↔lang n s:=by
 rw [(sem_sp s n h).spec 0 s.length (Nat.zero_le _),seg_all]
 simp
end Mx
end Go.Proofs.YtjhbgkakhaonaaaGreatDoor
