/- Texts that the proof leans on. -/
import Derived.Test.YtbpihhelojjedaaDoorK322
set_option linter.unusedVariables false
set_option linter.unusedSimpArgs false
set_option maxRecDepth 100000
set_option maxHeartbeats 4000000
namespace Go.Proofs.YtbpihhelojjedaaDoor
open Go
open Sh Gn
namespace Pl
theorem works16:l16_works_g 300=some true:=by decide+kernel
theorem at_nat {α:Type} (l:List α) (i:Nat):at_ l (i:Int)=l[i]?:=by
 unfold at_;rw [if_pos (by omega)];simp
theorem at_in {α:Type} {l:List α} {i:Nat} (h:i<l.length):at_ l (i:Int)=some l[i]:=by rw [at_nat,List.getElem?_eq_getElem h]
theorem inc1 {i:Nat} (h:i≤100000000):ar .add .i64 (i:Int) 1=((i+1:Nat):Int):=by rw [ar_add (by omega) (by omega)];omega
theorem app_eq {α:Type} {c:α→List Ab.T} {l m:List α} (h:l.length+m.length≤1000000000):app c l m=some (l++m):=by unfold app;rw [if_pos h]
def rs (many:Int):Int→List Int→Bool
 | _,[]=>true
 | last,x::l=>if x≤last∨many≤x then false else rs many x l
variable {p:GSpots}
end Pl
end Go.Proofs.YtbpihhelojjedaaDoor
namespace Go.Proofs.YtbpihhelojjedaaDoor
open Go
open Sh Gn
namespace Pl
def pickL (many:Nat) (f:Int→Bool):List Int:=((List.range many).map Int.ofNat).filter f
theorem mem_pick {many:Nat} {f:Int→Bool} {x:Int}:x∈pickL many f↔(0≤x∧x<many)∧f x=true:=by
 unfold pickL
 rw [List.mem_filter,List.mem_map]
 constructor
 · rintro ⟨⟨n,hn,rfl⟩,h⟩
   have:=List.mem_range.1 hn
   exact ⟨⟨by simp,by simpa using this⟩,h⟩
 · rintro ⟨⟨h1,h2⟩,h⟩
   exact ⟨⟨x.toNat,List.mem_range.2 (by omega),by simp;omega⟩,h⟩
def pickF (i many:Nat) (f:Int→Bool):List Int:=(((List.range many).drop i).map Int.ofNat).filter f
theorem pickF_0 {many:Nat} {f:Int→Bool}:pickF 0 many f=pickL many f:=rfl
theorem pickF_s {i many:Nat} {f:Int→Bool} (h:i<many):pickF i many f=if f i then (i:Int)::pickF (i+1) many f else pickF (i+1) many f:=by
 unfold pickF
 rw [List.drop_eq_getElem_cons (by simpa using h),List.map_cons,List.filter_cons,List.getElem_range]
 rfl
theorem pickF_e {many:Nat} {f:Int→Bool}:pickF many many f=[]:=by
 unfold pickF
 rw [List.drop_of_length_le (by simp)]
 rfl
theorem in_l (l:List Int) (x:Int) (hl:l.length≤1000000):∀(m i:Nat),i≤l.length→l.length<i+m→r16_in_l1 l x m i=some (decide (x∈l.drop i)):=by
 intro m
 induction m with
 | zero=>intro i h1 h2;omega
 | succ m ih=>
   intro i h1 h2
   rw [r16_in_l1]
   simp only [cm_lss,ll_eq,cond_dec,cm_eql]
   by_cases c:i<l.length
   · rw [if_pos (by omega),at_in c,List.drop_eq_getElem_cons c]
     simp only [Option.bind_some,inc1 (show i≤100000000 by omega)]
     by_cases e:l[i]=x
     · rw [if_pos e,decide_eq_true (by rw [e];exact List.mem_cons_self)]
     · rw [if_neg e,ih (i+1) (by omega) (by omega)]
       congr 1
       rw [decide_eq_decide,List.mem_cons]
       exact ⟨.inr,fun h=>h.resolve_left (fun h=>e h.symm)⟩
   · rw [if_neg (by omega),List.drop_of_length_le (by omega)]
     rfl
theorem in_p {N:Nat} {l:List Int} {x:Int} (h:l.length<N) (h2:l.length≤1000000):r16_in_g N l x=some (decide (x∈l)):=in_l l x h2 N 0 (by omega) (by omega)
theorem join_l {N:Nat} {a b:List Int} {many:Nat} (ha:a.length<N) (ha2:a.length≤1000000) (hb:b.length<N) (hb2:b.length≤1000000) (hm:many≤1000000):∀(m i:Nat) (acc:List Int),i≤many→many<i+m→acc.length≤i→r16_Join_l1 N a b many m i acc=some (acc++pickF i many fun n=>decide (n∈a)||decide (n∈b)):=by
 intro m
 induction m with
 | zero=>intro i acc h1 h2;omega
 | succ m ih=>
   intro i acc h1 h2 h3
   rw [r16_Join_l1]
   simp only [cm_lss,cond_dec,in_p ha ha2,in_p hb hb2,Option.bind_some]
   by_cases c:i<many
   · rw [if_pos (by omega),pickF_s c,inc1 (by omega)]
     by_cases e:(i:Int)∈a
     · simp only [e,if_true,Option.bind_some,_root_.cond_true,decide_true,Bool.true_or,app_eq (show acc.length+[(i:Int)].length≤1000000000 by simp;omega)]
       rw [ih (i+1) _ (by omega) (by omega) (by simp;omega)]
       simp
     · by_cases e2:(i:Int)∈b
       · simp only [e,e2,if_true,if_false,Option.bind_some,_root_.cond_true,decide_true,decide_false,Bool.or_true,app_eq (show acc.length+[(i:Int)].length≤1000000000 by simp;omega)]
         rw [ih (i+1) _ (by omega) (by omega) (by simp;omega)]
         simp
       · simp only [e,e2,if_false,Option.bind_some,_root_.cond_false,decide_false,Bool.or_false,Bool.false_eq_true]
         exact ih (i+1) _ (by omega) (by omega) (by omega)
   · rw [if_neg (by omega),show i=many by omega,pickF_e,List.append_nil]
theorem join_p {N:Nat} {a b:List Int} {many:Nat} (ha:a.length<N) (ha2:a.length≤1000000) (hb:b.length<N) (hb2:b.length≤1000000) (hm:many≤1000000) (hN:many<N):r16_Join_g N a b many=some (pickL many fun n=>decide (n∈a)||decide (n∈b)):=by
 unfold r16_Join_g
 have h:r16_Join_l1 N a b many N 0 []=_:=join_l ha ha2 hb hb2 hm N 0 [] (by omega) (by omega) (by simp)
 rw [h,List.nil_append,pickF_0]
variable {p:GSpots}
end Pl
end Go.Proofs.YtbpihhelojjedaaDoor
namespace Go.Proofs.YtbpihhelojjedaaDoor
open Go
namespace Mx
abbrev Pos:=Nat→Bool
def zr:Pos:=fun _=>false
def orP (a b:Pos):Pos:=fun j=>a j||b j
def single (i:Nat):Pos:=fun j=>j==i
def one (S:CSet) (s:List UInt8) (x:Pos):Pos:=fun j=>match j with
 | 0=>false
 | i+1=>x i&&(match s[i]? with | some c=>S.has c.toNat | _=>false)
def iter (f:Pos→Pos):Nat→Pos→Pos
 | 0,x=>x
 | k+1,x=>iter f k (f x)
def upto (f:Pos→Pos):Nat→Pos→Pos
 | 0,x=>x
 | k+1,x=>orP x (f (upto f k x))
def more (long:Nat) (mn mx:Int):Nat:=if mx=-1 then long else (mx-mn).toNat
mutual
def sp (s:List UInt8):Node→Pos→Pos
 | .mk k S kids mn mx=>fun x=>if k=1 then one S s x else if k=2 then spCat s kids x else if k=3 then spAlt s kids x else spRep s kids mn mx x
def spCat (s:List UInt8):List Node→Pos→Pos
 | []=>fun x=>x
 | n::r=>fun x=>spCat s r (sp s n x)
def spAlt (s:List UInt8):List Node→Pos→Pos
 | []=>fun _=>zr
 | n::r=>fun x=>orP (sp s n x) (spAlt s r x)
def spRep (s:List UInt8) (kids:List Node) (mn mx:Int):Pos→Pos:=match kids with
 | []=>fun _=>zr
 | n::_=>fun x=>upto (sp s n) (more s.length mn mx) (iter (sp s n) mn.toNat x)
end
structure Adds (f:Pos→Pos):Prop where
 or_:∀a b,f (orP a b)=orP (f a) (f b)
 none_:f zr=zr
theorem or_self (a:Pos):orP a a=a:=by funext j;simp [orP]
theorem or_comm (a b:Pos):orP a b=orP b a:=by funext j;simp [orP,Bool.or_comm]
theorem or_four (a b c d:Pos):orP (orP a b) (orP c d)=orP (orP a c) (orP b d):=by
 funext j;simp only [orP];cases a j<;>cases b j<;>cases c j<;>cases d j<;>rfl
theorem Adds.comp {f g:Pos→Pos} (hf:Adds f) (hg:Adds g):Adds (fun x=>g (f x)):=⟨fun a b=>by rw [hf.or_,hg.or_],by rw [hf.none_,hg.none_]⟩
theorem Adds.id:Adds (fun x=>x):=⟨fun _ _=>rfl,rfl⟩
theorem Adds.orP {f g:Pos→Pos} (hf:Adds f) (hg:Adds g):Adds (fun x=>orP (f x) (g x)):=⟨fun a b=>by rw [hf.or_,hg.or_,or_four],by rw [hf.none_,hg.none_,or_self]⟩
theorem Adds.iter {f:Pos→Pos} (hf:Adds f):∀k,Adds (iter f k)
 | 0=>Adds.id
 | k+1=>hf.comp (Adds.iter hf k)
def Sup (N:Nat) (x:Pos):Prop:=∀j,N≤j→x j=false
def Keeps (N:Nat) (f:Pos→Pos):Prop:=∀x,Sup N x→Sup N (f x)
theorem Sup.orP {N:Nat} {a b:Pos} (ha:Sup N a) (hb:Sup N b):Sup N (orP a b):=fun j hj=>by simp [Mx.orP,ha j hj,hb j hj]
theorem sup_single {N i:Nat} (h:i<N):Sup N (single i):=fun j hj=>by simp [single];omega
theorem Keeps.iter {N:Nat} {f:Pos→Pos} (hf:Keeps N f):∀k,Keeps N (iter f k)
 | 0=>fun _ h=>h
 | k+1=>fun x h=>Keeps.iter hf k _ (hf x h)
theorem sp_any {f:Pos→Pos} (hf:Adds f) {N:Nat} {x:Pos} (hx:Sup N x) (j:Nat):f x j=(List.range N).any (fun i=>x i&&f (single i) j):=by
 have key:∀k,f (fun i=>decide (i<k)&&x i) j=(List.range k).any (fun i=>x i&&f (single i) j):=by
  intro k
  induction k with
  | zero=>rw [show (fun i=>decide (i<0)&&x i)=zr by funext i;simp [zr],hf.none_];rfl
  | succ k ih=>
    rw [List.range_succ,List.any_append,←ih]
    have e:(fun i=>decide (i<k+1)&&x i)=orP (fun i=>decide (i<k)&&x i) (if x k then single k else zr):=by
     funext i
     simp only [orP]
     by_cases h1:i=k
     · subst h1;cases hx:x i<;>simp [single,zr]
     · have h2:decide (i<k+1)=decide (i<k):=by rw [decide_eq_decide];omega
       rw [h2]
       cases hx:x k<;>simp [single,zr,h1]
    rw [e,hf.or_]
    simp only [orP,List.any_cons,List.any_nil,Bool.or_false]
    cases x k
    · simp [hf.none_,zr]
    · simp
 rw [←key N]
 congr 1
 funext i
 by_cases h:i<N
 · simp [h]
 · simp [h,hx i (by omega)]
end Mx
end Go.Proofs.YtbpihhelojjedaaDoor
namespace Go.Proofs.YtbpihhelojjedaaDoor
open Go
namespace Rx
structure Emb (l m:List UInt8) (k:Nat) (c:Int):Prop where
 at_:∀i,i<l.length→pk m (i+k)=pk l i
 end_:pk m (l.length+k)=c
 len:l.length+k≤m.length
 term:c=-1∨c=41∨c=124
section
variable {l m:List UInt8} {k:Nat} {c:Int}
theorem Emb.get (E:Emb l m k c) {i:Nat} (h:pk l i≠-1):pk m (i+k)=pk l i:=E.at_ i (pk_in h)
def Sim {α:Type} (k:Nat) (L:Prop) (r r':Res α):Prop:=∀a p,r=.ok a p→r'=.ok a (p+k)∨(L∧∃q,r'=.bad 3 q)
variable {at1 at2:Nat→Res Node} {L:Prop}
variable (hf:∀i,i≤l.length→Fine l i (at1 i)) (ha:∀i,i≤l.length→Sim k L (at1 i) (at2 (i+k)))
include hf ha
end
end Rx
namespace Rx
def Bads {α:Type} (l:List UInt8) (r:Res α):Prop:=∀e p,r=.bad e p→(e=1∨e=2∨e=3)∧p≤l.length
variable {l:List UInt8}
end Rx
end Go.Proofs.YtbpihhelojjedaaDoor
namespace Go.Proofs.YtbpihhelojjedaaDoor
open Go
namespace Rx
def timesB (lo hi:Int):Bool:=if lo<0||lo>16||hi>16||hi< -1||hi==0 then false else hi== -1||hi≥lo
def topB (kind:Int) (S:CSet) (many:Nat) (mn mx:Int):Bool:=
 (kind==1||kind==2||kind==3||kind==4)&&(kind==1||decide (S=CSet.empty))&&(kind==4||mn==0&&mx==0)&&
 (if kind==1 then many==0 else if kind==2 then many != 1 else if kind==3 then decide (many>1) else many==1&&timesB mn mx)
mutual
def right:Node→Bool
 | .mk kind S kids mn mx=>topB kind S kids.length mn mx&&rights kind kids
def rights (kind:Int):List Node→Bool
 | []=>true
 | n::r=>(right n&& !(n.kind==kind&&kind != 4))&&rights kind r
end
theorem right_eq (n:Node):right n=(topB n.kind n.set n.kids.length n.min n.max&&rights n.kind n.kids):=by cases n;rw [right]<;>rfl
theorem rights_iff (kind:Int) (ns:List Node):rights kind ns=true↔∀n∈ns,right n=true∧¬(n.kind=kind∧kind≠4):=by
 induction ns with
 | nil=>simp [rights]
 | cons a r ih=>rw [rights,Bool.and_eq_true,ih];simp;intro _;omega
variable {l:List UInt8}
end Rx
end Go.Proofs.YtbpihhelojjedaaDoor
namespace Go.Proofs.YtbpihhelojjedaaDoor
open Go
namespace Mx
abbrev Lg:=List UInt8→Prop
def lnil:Lg:=fun w=>w=[]
def lcat (A B:Lg):Lg:=fun w=>∃u v,w=u++v∧A u∧B v
def lpow (A:Lg):Nat→Lg
 | 0=>lnil
 | k+1=>lcat A (lpow A k)
mutual
def lang:Node→Lg
 | .mk k S kids mn mx=>fun w=>if k=1 then ∃c,w=[c]∧S.has c.toNat=true else if k=2 then langCat kids w else if k=3 then langAlt kids w else langRep kids mn mx w
def langCat:List Node→Lg
 | []=>lnil
 | n::r=>fun w=>∃u v,w=u++v∧lang n u∧langCat r v
def langAlt:List Node→Lg
 | []=>fun _=>False
 | n::r=>fun w=>lang n w∨langAlt r w
def langRep (kids:List Node) (mn mx:Int):Lg:=match kids with
 | []=>fun _=>False
 | n::_=>fun w=>∃k:Nat,mn.toNat≤k∧(mx=-1∨(k:Int)≤mx)∧lpow (lang n) k w
end
theorem lang1 (S:CSet) (kids:List Node) (mn mx:Int) (w:List UInt8):lang (.mk 1 S kids mn mx) w↔∃c,w=[c]∧S.has c.toNat=true:=by unfold lang;simp
theorem lang2 (S:CSet) (kids:List Node) (mn mx:Int) (w:List UInt8):lang (.mk 2 S kids mn mx) w↔langCat kids w:=by rw [lang];simp
theorem lang3 (S:CSet) (kids:List Node) (mn mx:Int) (w:List UInt8):lang (.mk 3 S kids mn mx) w↔langAlt kids w:=by rw [lang];simp
theorem lang4 {k:Int} (h1:k≠1) (h2:k≠2) (h3:k≠3) (S:CSet) (kids:List Node) (mn mx:Int) (w:List UInt8):lang (.mk k S kids mn mx) w↔langRep kids mn mx w:=by rw [lang];simp [h1,h2,h3]
theorem langCat_cons (n:Node) (r:List Node) (w:List UInt8):langCat (n::r) w↔lcat (lang n) (langCat r) w:=by rw [langCat];rfl
theorem langAlt_cons (n:Node) (r:List Node) (w:List UInt8):langAlt (n::r) w↔(lang n w∨langAlt r w):=by rw [langAlt]
theorem langRep_cons (n:Node) (r:List Node) (mn mx:Int) (w:List UInt8):langRep (n::r) mn mx w↔∃k:Nat,mn.toNat≤k∧(mx=-1∨(k:Int)≤mx)∧lpow (lang n) k w:=by rw [langRep]
def seg (s:List UInt8) (i j:Nat):List UInt8:=(s.drop i).take (j-i)
theorem seg_len {s:List UInt8} {i j:Nat} (hi:i≤j) (hj:j≤s.length):(seg s i j).length=j-i:=by unfold seg;rw [List.length_take,List.length_drop];omega
theorem seg_split {s:List UInt8} {i m j:Nat} (h1:i≤m) (h2:m≤j) (_hj:j≤s.length):seg s i j=seg s i m++seg s m j:=by
 unfold seg
 have e:j-i=(m-i)+(j-m):=by omega
 rw [e,List.take_add,List.drop_drop,show i+(m-i)=m by omega]
theorem seg_nil {s:List UInt8} {i j:Nat} (hi:i≤j) (hj:j≤s.length):seg s i j=[]↔i=j:=by
 rw [←List.length_eq_zero_iff,seg_len hi hj];omega
structure Sem (s:List UInt8) (f:Pos→Pos) (A:Lg):Prop where
 adds:Adds f
 keeps:Keeps (s.length+1) f
 spec:∀i j,i≤s.length→(f (single i) j=true↔i≤j∧j≤s.length∧A (seg s i j))
theorem sem_nil (s:List UInt8):Sem s (fun x=>x) lnil where
 adds:=Adds.id
 keeps:=fun _ h=>h
 spec i j hi:=by
  simp only [single,beq_iff_eq,lnil]
  constructor
  · rintro rfl;exact ⟨Nat.le_refl _,hi,(seg_nil (Nat.le_refl _) hi).2 rfl⟩
  · rintro ⟨h1,h2,h3⟩;exact ((seg_nil h1 h2).1 h3).symm
theorem Sem.or {s:List UInt8} {f g:Pos→Pos} {A B:Lg} (hf:Sem s f A) (hg:Sem s g B):Sem s (fun x=>orP (f x) (g x)) (fun w=>A w∨B w) where
 adds:=Adds.orP hf.adds hg.adds
 keeps:=fun x h=>(hf.keeps x h).orP (hg.keeps x h)
 spec i j hi:=by
  simp only [orP,Bool.or_eq_true,hf.spec i j hi,hg.spec i j hi]
  constructor
  · rintro (⟨a,b,c⟩ | ⟨a,b,c⟩)
    · exact ⟨a,b,Or.inl c⟩
    · exact ⟨a,b,Or.inr c⟩
  · rintro ⟨a,b,c | c⟩
    · exact Or.inl ⟨a,b,c⟩
    · exact Or.inr ⟨a,b,c⟩
theorem lcat_seg {s:List UInt8} {A B:Lg} {i j:Nat} (hi:i≤j) (hj:j≤s.length):lcat A B (seg s i j)↔∃m,i≤m∧m≤j∧A (seg s i m)∧B (seg s m j):=by
 constructor
 · rintro ⟨u,v,e,hu,hv⟩
   have hl:u.length+v.length=j-i:=by rw [←seg_len hi hj,e,List.length_append]
   have hs:=seg_split (s:=s) (i:=i) (m:=i+u.length) (j:=j) (by omega) (by omega) hj
   rw [e] at hs
   have h1:u.length=(seg s i (i+u.length)).length:=by rw [seg_len (by omega) (by omega)];omega
   obtain ⟨h2,h3⟩:=List.append_inj hs h1
   exact ⟨i+u.length,by omega,by omega,h2▸hu,h3▸hv⟩
 · rintro ⟨m,h1,h2,h3,h4⟩
   exact ⟨_,_,seg_split h1 h2 hj,h3,h4⟩
theorem Sem.comp {s:List UInt8} {f g:Pos→Pos} {A B:Lg} (hf:Sem s f A) (hg:Sem s g B):Sem s (fun x=>g (f x)) (lcat A B) where
 adds:=hf.adds.comp hg.adds
 keeps:=fun x h=>hg.keeps _ (hf.keeps x h)
 spec i j hi:=by
  have hsup:Sup (s.length+1) (f (single i)):=hf.keeps _ (sup_single (by omega))
  show g (f (single i)) j=true↔_
  rw [sp_any hg.adds hsup j,List.any_eq_true]
  constructor
  · rintro ⟨m,hm,h⟩
    rw [Bool.and_eq_true] at h
    obtain ⟨a,b,c⟩:=(hf.spec i m hi).1 h.1
    obtain ⟨a',b',c'⟩:=(hg.spec m j b).1 h.2
    exact ⟨by omega,b',(lcat_seg (by omega) b').2 ⟨m,a,a',c,c'⟩⟩
  · rintro ⟨a,b,c⟩
    obtain ⟨m,h1,h2,h3,h4⟩:=(lcat_seg a b).1 c
    exact ⟨m,List.mem_range.2 (by omega),by rw [Bool.and_eq_true];exact ⟨(hf.spec i m hi).2 ⟨h1,by omega,h3⟩,(hg.spec m j (by omega)).2 ⟨h2,b,h4⟩⟩⟩
theorem Sem.iter {s:List UInt8} {f:Pos→Pos} {A:Lg} (hf:Sem s f A):∀k,Sem s (iter f k) (lpow A k)
 | 0=>sem_nil s
 | k+1=>hf.comp (Sem.iter hf k)
end Mx
end Go.Proofs.YtbpihhelojjedaaDoor
namespace Go.Proofs.YtbpihhelojjedaaDoor
namespace Gk
open Mx
def rd (E:Nat→Nat→Prop) (H:Nat→UInt8→Prop):Nat→List UInt8→Nat→Prop
 | _,[],_=>False
 | k,c::w,k'=>H k c∧((w=[]∧k=k')∨∃j,E k j∧rd E H j w k')
structure Pt where
 fi:Nat→Prop
 la:Nat→Prop
 no:Prop
def L (E:Nat→Nat→Prop) (H:Nat→UInt8→Prop) (p:Pt):Lg:=fun w=>(w=[]∧p.no)∨∃k k',p.fi k∧p.la k'∧rd E H k w k'
variable {E E':Nat→Nat→Prop} {H H':Nat→UInt8→Prop} {I J:Nat→Prop} {A B Q:Pt}
theorem rd_ne {k k':Nat} {w:List UInt8} (h:rd E H k w k'):w≠[]:=by rintro rfl;exact h
def Clo (E:Nat→Nat→Prop) (I:Nat→Prop):Prop:=∀k j,I k→E k j→I j
theorem rd_in (hc:Clo E I):∀{w:List UInt8} {k k':Nat},I k→rd E H k w k'→I k'
 | [],_,_,_,h=>h.elim
 | c::w,k,k',hk,h=>by
   rcases h.2 with ⟨-,rfl⟩ | ⟨j,h1,h2⟩
   · exact hk
   · exact rd_in hc (hc k j hk h1) h2
theorem rd_congr (hc:Clo E I) (he:∀k j,I k→(E k j↔E' k j)) (hh:∀k c,I k→(H k c↔H' k c)):∀{w:List UInt8} {k k':Nat},I k→(rd E H k w k'↔rd E' H' k w k')
 | [],_,_,_=>Iff.rfl
 | c ::w,k,k',hk=>by
   simp only [rd]
   rw [hh k c hk]
   refine and_congr_right fun _=>or_congr Iff.rfl ?_
   constructor
   · rintro ⟨j,h1,h2⟩
     exact ⟨j,(he k j hk).1 h1,(rd_congr hc he hh (hc k j hk h1)).1 h2⟩
   · rintro ⟨j,h1,h2⟩
     have h1':=(he k j hk).2 h1
     exact ⟨j,h1',(rd_congr hc he hh (hc k j hk h1')).2 h2⟩
structure In (I:Nat→Prop) (p:Pt):Prop where
 fi:∀k,p.fi k→I k
 la:∀k,p.la k→I k
theorem L_congr (hc:Clo E I) (hi:In I A) (he:∀k j,I k→(E k j↔E' k j)) (hh:∀k c,I k→(H k c↔H' k c)) (w:List UInt8):L E H A w↔L E' H' A w:=by
 unfold L
 refine or_congr Iff.rfl ?_
 constructor<;>(rintro ⟨k,k',h1,h2,h3⟩;refine ⟨k,k',h1,h2,?_⟩)
 · exact (rd_congr hc he hh (hi.fi k h1)).1 h3
 · exact (rd_congr hc he hh (hi.fi k h1)).2 h3
def link (E:Nat→Nat→Prop) (A B:Pt):Nat→Nat→Prop:=fun k j=>E k j∨(A.la k∧B.fi j)
def behind (A B:Pt):Pt:=⟨fun k=>A.fi k∨(A.no∧B.fi k),fun k=>B.la k∨(B.no∧A.la k),A.no∧B.no⟩
theorem rd_link_J (hJ:Clo E J) (hd:∀k,I k→¬ J k) (hA:In I A) {w:List UInt8} {k k':Nat} (hk:J k):rd (link E A B) H k w k'↔rd E H k w k':=
 (rd_congr hJ (fun k j hk=>⟨.inl,fun h=>h.resolve_right fun h=>hd k (hA.la k h.1) hk⟩) (fun _ _ _=>Iff.rfl) hk).symm
theorem rd_link_I (hI:Clo E I) (hJ:Clo E J) (hd:∀k,I k→¬ J k) (hA:In I A) (hB:In J B):∀{w:List UInt8} {k k':Nat},I k→(rd (link E A B) H k w k'↔rd E H k w k'∨∃u v m j,w=u++v∧rd E H k u m∧A.la m∧B.fi j∧rd E H j v k')
 | [],k,k',hk=>by
   constructor
   · exact fun h=>h.elim
   · rintro (h | ⟨u,v,m,j,h1,h2,-⟩)
     · exact h
     · exact absurd (List.append_eq_nil_iff.1 h1.symm).1 (rd_ne h2)
 | c :: w,k,k',hk=>by
   constructor
   · rintro ⟨h0,h | ⟨j,h1 | h1,h2⟩⟩
     · exact .inl ⟨h0,.inl h⟩
     · rcases (rd_link_I hI hJ hd hA hB (hI k j hk h1)).1 h2 with h | ⟨u,v,m,i,rfl,h4,h5⟩
       · exact .inl ⟨h0,.inr ⟨j,h1,h⟩⟩
       · exact .inr ⟨c::u,v,m,i,rfl,⟨h0,.inr ⟨j,h1,h4⟩⟩,h5⟩
     · exact .inr ⟨[c],w,k,j,rfl,⟨h0,.inl ⟨rfl,rfl⟩⟩,h1.1,h1.2,(rd_link_J hJ hd hA (hB.fi j h1.2)).1 h2⟩
   · rintro (⟨h0,h | ⟨j,h1,h2⟩⟩ | ⟨u,v,m,i,h1,h2,h3,h4,h5⟩)
     · exact ⟨h0,.inl h⟩
     · exact ⟨h0,.inr ⟨j,.inl h1,(rd_link_I hI hJ hd hA hB (hI k j hk h1)).2 (.inl h2)⟩⟩
     · cases u with
       | nil=>exact absurd rfl (rd_ne h2)
       | cons d u=>
         injection h1 with e1 e2
         subst e1 e2
         rcases h2.2 with ⟨rfl,rfl⟩ | ⟨j,g1,g2⟩
         · exact ⟨h2.1,.inr ⟨i,.inr ⟨h3,h4⟩,(rd_link_J hJ hd hA (hB.fi i h4)).2 h5⟩⟩
         · exact ⟨h2.1,.inr ⟨j,.inl g1,(rd_link_I hI hJ hd hA hB (hI k j hk g1)).2 (.inr ⟨u,v,m,i,rfl,g2,h3,h4,h5⟩)⟩⟩
theorem L_behind (hI:Clo E I) (hJ:Clo E J) (hd:∀k,I k→¬ J k) (hA:In I A) (hB:In J B) (w:List UInt8):L (link E A B) H (behind A B) w↔lcat (L E H A) (L E H B) w:=by
 have aa:∀{w k k'},I k→I k'→(rd (link E A B) H k w k'↔rd E H k w k'):=fun {w k k'} hk hk'=>by
  rw [rd_link_I hI hJ hd hA hB hk]
  exact ⟨fun h=>h.resolve_right fun ⟨u,v,m,j,_,_,_,h4,h5⟩=>hd k' hk' (rd_in hJ (hB.fi j h4) h5),.inl⟩
 have ab:∀{w k k'},I k→J k'→(rd (link E A B) H k w k'↔∃u v m j,w=u++v∧rd E H k u m∧A.la m∧B.fi j∧rd E H j v k'):=fun {w k k'} hk hk'=>by
  rw [rd_link_I hI hJ hd hA hB hk]
  exact ⟨fun h=>h.resolve_left fun h=>hd k' (rd_in hI hk h) hk',.inr⟩
 have bb:∀{w k k'},J k→(rd (link E A B) H k w k'↔rd E H k w k'):=fun hk=>rd_link_J hJ hd hA hk
 constructor
 · rintro (⟨rfl,h1,h2⟩ | ⟨k,k',h1,h2,h3⟩)
   · exact ⟨[],[],rfl,.inl ⟨rfl,h1⟩,.inl ⟨rfl,h2⟩⟩
   · rcases h1 with h1 | ⟨h0,h1⟩
     · rcases h2 with h2 | ⟨h2,h4⟩
       · obtain ⟨u,v,m,j,rfl,g1,g2,g3,g4⟩:=(ab (hA.fi k h1) (hB.la k' h2)).1 h3
         exact ⟨u,v,rfl,.inr ⟨k,m,h1,g2,g1⟩,.inr ⟨j,k',g3,h2,g4⟩⟩
       · exact ⟨w,[],(List.append_nil w).symm,.inr ⟨k,k',h1,h4,(aa (hA.fi k h1) (hA.la k' h4)).1 h3⟩,.inl ⟨rfl,h2⟩⟩
     · have h5:=(bb (hB.fi k h1)).1 h3
       rcases h2 with h2 | ⟨h2,h4⟩
       · exact ⟨[],w,rfl,.inl ⟨rfl,h0⟩,.inr ⟨k,k',h1,h2,h5⟩⟩
       · exact absurd (rd_in hJ (hB.fi k h1) h5) (hd k' (hA.la k' h4))
 · rintro ⟨u,v,rfl,⟨rfl,h1⟩ | ⟨k,m,h1,h2,h3⟩,⟨rfl,g1⟩ | ⟨j,k',g1,g2,g3⟩⟩
   · exact .inl ⟨rfl,h1,g1⟩
   · exact .inr ⟨j,k',.inr ⟨h1,g1⟩,.inl g2,(bb (hB.fi j g1)).2 (by simpa using g3)⟩
   · exact .inr ⟨k,m,.inl h1,.inr ⟨g1,h2⟩,(aa (hA.fi k h1) (hA.la m h2)).2 (by simpa using h3)⟩
   · exact .inr ⟨k,k',.inl h1,.inl g2,(ab (hA.fi k h1) (hB.la k' g2)).2 ⟨u,v,m,j,rfl,h3,h2,g1,g3⟩⟩
def orP (A B:Pt):Pt:=⟨fun k=>A.fi k∨B.fi k,fun k=>A.la k∨B.la k,A.no∨B.no⟩
theorem L_or (hI:Clo E I) (hJ:Clo E J) (hd:∀k,I k→¬ J k) (hA:In I A) (hB:In J B) (w:List UInt8):L E H (orP A B) w↔L E H A w∨L E H B w:=by
 constructor
 · rintro (⟨rfl,h1 | h1⟩ | ⟨k,k',h1 | h1,h2 | h2,h3⟩)
   · exact .inl (.inl ⟨rfl,h1⟩)
   · exact .inr (.inl ⟨rfl,h1⟩)
   · exact .inl (.inr ⟨k,k',h1,h2,h3⟩)
   · exact absurd (hB.la k' h2) (hd k' (rd_in hI (hA.fi k h1) h3))
   · exact absurd (rd_in hJ (hB.fi k h1) h3) (hd k' (hA.la k' h2))
   · exact .inr (.inr ⟨k,k',h1,h2,h3⟩)
 · rintro ((⟨rfl,h1⟩ | ⟨k,k',h1,h2,h3⟩) | (⟨rfl,h1⟩ | ⟨k,k',h1,h2,h3⟩))
   · exact .inl ⟨rfl,.inl h1⟩
   · exact .inr ⟨k,k',.inl h1,.inl h2,h3⟩
   · exact .inl ⟨rfl,.inr h1⟩
   · exact .inr ⟨k,k',.inr h1,.inr h2,h3⟩
def loop (Q:Pt):Pt:=⟨Q.fi,Q.la,True⟩
theorem rd_loop (hI:Clo E I) (hQ:In I Q):∀{w:List UInt8} {k k':Nat},I k→(rd (link E Q Q) H k w k'↔rd E H k w k'∨∃u v m j,w=u++v∧rd E H k u m∧Q.la m∧Q.fi j∧rd (link E Q Q) H j v k')
 | [],k,k',hk=>by
   constructor
   · exact fun h=>h.elim
   · rintro (h | ⟨u,v,m,j,h1,h2,-⟩)
     · exact h
     · exact absurd (List.append_eq_nil_iff.1 h1.symm).1 (rd_ne h2)
 | c :: w,k,k',hk=>by
   constructor
   · rintro ⟨h0,h | ⟨j,h1 | h1,h2⟩⟩
     · exact .inl ⟨h0,.inl h⟩
     · rcases (rd_loop hI hQ (hI k j hk h1)).1 h2 with h | ⟨u,v,m,i,rfl,h4,h5⟩
       · exact .inl ⟨h0,.inr ⟨j,h1,h⟩⟩
       · exact .inr ⟨c::u,v,m,i,rfl,⟨h0,.inr ⟨j,h1,h4⟩⟩,h5⟩
     · exact .inr ⟨[c],w,k,j,rfl,⟨h0,.inl ⟨rfl,rfl⟩⟩,h1.1,h1.2,h2⟩
   · rintro (⟨h0,h | ⟨j,h1,h2⟩⟩ | ⟨u,v,m,i,h1,h2,h3,h4,h5⟩)
     · exact ⟨h0,.inl h⟩
     · exact ⟨h0,.inr ⟨j,.inl h1,(rd_loop hI hQ (hI k j hk h1)).2 (.inl h2)⟩⟩
     · cases u with
       | nil=>exact absurd rfl (rd_ne h2)
       | cons d u=>
         injection h1 with e1 e2
         subst e1 e2
         rcases h2.2 with ⟨rfl,rfl⟩ | ⟨j,g1,g2⟩
         · exact ⟨h2.1,.inr ⟨i,.inr ⟨h3,h4⟩,h5⟩⟩
         · exact ⟨h2.1,.inr ⟨j,.inl g1,(rd_loop hI hQ (hI k j hk g1)).2 (.inr ⟨u,v,m,i,rfl,g2,h3,h4,h5⟩)⟩⟩
theorem L_loop (hI:Clo E I) (hQ:In I Q) (w:List UInt8):L (link E Q Q) H (loop Q) w↔∃n,lpow (L E H Q) n w:=by
 constructor
 · rintro (⟨rfl,-⟩ | ⟨k,k',h1,h2,h3⟩)
   · exact ⟨0,by unfold lpow lnil;rfl⟩
   · have key:∀(n:Nat) (w:List UInt8) (k:Nat),w.length≤n→Q.fi k→rd (link E Q Q) H k w k'→∃n,lpow (L E H Q) n w:=by
      intro n
      induction n with
      | zero=>intro w k hw _ h;exact absurd (List.eq_nil_of_length_eq_zero (by omega)) (rd_ne h)
      | succ n ih=>
        intro w k hw hk h
        rcases (rd_loop hI hQ (hQ.fi k hk)).1 h with h | ⟨u,v,m,j,rfl,g1,g2,g3,g4⟩
        · exact ⟨1,w,[],(List.append_nil w).symm,.inr ⟨k,k',hk,h2,h⟩,by unfold lpow lnil;rfl⟩
        · have hu:0<u.length:=List.length_pos_iff.2 (rd_ne g1)
          obtain ⟨i,hi⟩:=ih v j (by rw [List.length_append] at hw;omega) g3 g4
          exact ⟨i+1,u,v,rfl,.inr ⟨k,m,hk,g2,g1⟩,hi⟩
     exact key w.length w k (Nat.le_refl _) h1 h3
 · rintro ⟨n,h⟩
   induction n generalizing w with
   | zero=>exact .inl ⟨h,trivial⟩
   | succ n ih=>
     obtain ⟨u,v,rfl,h1,h2⟩:=h
     have hv:=ih v h2
     rcases h1 with ⟨rfl,-⟩ | ⟨k,m,h3,h4,h5⟩
     · exact hv
     · rcases hv with ⟨rfl,-⟩ | ⟨j,k',g1,g2,g3⟩
       · exact .inr ⟨k,m,h3,h4,(rd_loop hI hQ (hQ.fi k h3)).2 (.inl (by simpa using h5))⟩
       · exact .inr ⟨k,k',h3,g2,(rd_loop hI hQ (hQ.fi k h3)).2 (.inr ⟨u,v,m,j,rfl,h5,h4,g1,g3⟩)⟩
def opt (A:Pt):Pt:=⟨A.fi,A.la,True⟩
theorem L_opt (w:List UInt8):L E H (opt A) w↔w=[]∨L E H A w:=by
 constructor
 · rintro (⟨rfl,-⟩ | h)
   · exact .inl rfl
   · exact .inr (.inr h)
 · rintro (rfl | ⟨rfl,-⟩ | h)
   · exact .inl ⟨rfl,trivial⟩
   · exact .inl ⟨rfl,trivial⟩
   · exact .inr h
def emp:Pt:=⟨fun _=>False,fun _=>False,True⟩
theorem L_emp (w:List UInt8):L E H emp w↔w=[]:=⟨fun h=>h.elim (·.1) fun ⟨_,_,h,_⟩=>h.elim,fun h=>.inl ⟨h,trivial⟩⟩
end Gk
end Go.Proofs.YtbpihhelojjedaaDoor
namespace Go.Proofs.YtbpihhelojjedaaDoor
open Go Go.RowKit
open Ab Sh
namespace Soo
section
variable {α:Type}
def gl3 (c:α→List Ab.T) (z:α) (ne:α→α→Bool) (v6:Int):Nat→Int→Int→List α→Option (List α)
 | 0,_,_,_=>none
 | m+1,v11,v12,v13=>
   cond (winB v13 v6) (cond (cm .lss v12 (ar .sub .i64 (ll (rw _ c v13)) v6))
    (cond (wrowB v13 v6 v12) ((at_ v13 (ar .add .i64 v6 v12)).bind fun r14=>
    cond (wrowB v13 v6 (ar .sub .i64 v12 1)) ((at_ v13 (ar .add .i64 v6 (ar .sub .i64 v12 1))).bind fun r15=>
    (cond (ne r14 r15)
    (cond (wrowB v13 v6 v12) ((at_ v13 (ar .add .i64 v6 v12)).bind fun r16=>
    (at_ v13 v11).bind fun r17=>
    (at_ v13 v11).bind fun r18=>
    put c v13 v11 r16 fun l19=>
    some (ar .add .i64 v11 1,l19)) none)
    (some (v11,v13)):Option (Int ×(List α))).bind fun j2=>
    (gl3 c z ne v6 m) j2.1 (ar .add .i64 v12 1) j2.2) none) none)
    (cond (winB v13 v11) ((clr c z v13 v11).bind fun l20=>
    (cut c l20 v11).bind fun l21=>
    some l21) none)) none
def gl2 (c:α→List Ab.T) (z:α) (ne eq:α→α→Bool) (N:Nat) (l5:List α):Nat→Int→Option (List α)
 | 0,_=>none
 | m+1,v6=>
   cond (cm .lss v6 (ll (rw _ c l5)))
    ((at_ l5 v6).bind fun r7=>
    (at_ l5 v6).bind fun r8=>
    (at_ l5 (ar .sub .i64 v6 1)).bind fun r9=>
    (at_ l5 (ar .sub .i64 v6 1)).bind fun r10=>
    cond (eq r8 r10)
    (cond (winB l5 v6) (gl3 c z ne v6 N v6 1 l5) none)
    ((gl2 c z ne eq N l5 m) (ar .add .i64 v6 1)))
    (some l5)
theorem at_nat (l:List α) (n:Nat):at_ l (n:Int)=l[n]?:=by unfold at_;rw [if_pos (by omega)];simp
theorem win_t {l:List α} {i:Nat} (h:i≤l.length) (h1:1≤l.length):winB l (i:Int)=true:=by
 unfold winB
 simp only [Bool.and_eq_true,decide_eq_true_eq,Bool.not_eq_true',List.isEmpty_eq_false_iff]
 exact ⟨fun e=>by rw [e] at h1;simp at h1,by omega,by omega⟩
theorem wrow_t {l:List α} {i j:Nat} (h:i+j<l.length):wrowB l (i:Int) (j:Int)=true:=by
 unfold wrowB
 simp only [Bool.and_eq_true,decide_eq_true_eq]
 exact ⟨by omega,by omega,by omega⟩
variable {c:α→List Ab.T} {z:α} {ne eq:α→α→Bool} {lt:α→α→Prop} (hne:∀a b,ne a b=true↔a≠b) (heq:∀a b,eq a b=true↔a=b) (tr:∀a b d,lt a b→lt b d→lt a d)
variable {l:List α} (hs:l.Pairwise fun a b=>a=b∨lt a b) (hlen:l.length≤1000000)
include hne tr hs hlen
theorem gl3_ok (v3:Nat) (h3:1≤v3):∀(m k k2:Nat) (cur:List α),v3+k2≤l.length→1≤k2→cur.length=l.length→k≤v3+k2-1→1≤k→(∀j,v3+k2-1≤j→cur[j]?=l[j]?)→(cur.take k).Pairwise lt→(∀x,x∈cur.take k↔x∈l.take (v3+k2))→
 l.length-v3-k2<m→∃r,gl3 c z ne v3 m k k2 cur=some r∧r.Pairwise lt∧(∀x,x∈r↔x∈l)∧r.length≤l.length:=by
 intro m
 induction m with
 | zero=>intro k k2 cur _ _ _ _ _ _ _ _ h;omega
 | succ m ih=>
   intro k k2 cur h1 h2 hc hk hk1 hj hp hm hmm
   rw [gl3]
   rw [win_t (l:=cur) (i:=v3) (by omega) (by omega)]
   rw [_root_.cond_true,ll_eq,ar_sub (by omega) (by omega),cm_lss]
   by_cases hlt:v3+k2<l.length
   · rw [decide_eq_true (by omega),_root_.cond_true]
     rw [wrow_t (by omega),_root_.cond_true,ar_add (by omega) (by omega)]
     have e1:((v3:Int)+(k2:Int))=((v3+k2:Nat):Int):=by omega
     have e2:((k2:Int)-1)=((k2-1:Nat):Int):=by omega
     have e3:((v3:Int)+((k2-1:Nat):Int))=((v3+k2-1:Nat):Int):=by omega
     have g1:cur[v3+k2]?=some l[v3+k2]:=by rw [hj _ (by omega)];exact List.getElem?_eq_getElem hlt
     have hlt':v3+k2-1<l.length:=by omega
     have g2:cur[v3+k2-1]?=some l[v3+k2-1]:=by rw [hj _ (by omega)];exact List.getElem?_eq_getElem hlt'
     rw [e1,at_nat,g1,Option.bind_some,ar_sub (by omega) (by omega),e2,wrow_t (by omega),_root_.cond_true,ar_add (by omega) (by omega),e3,at_nat,g2,Option.bind_some]
     have e4:((k2:Int)+1)=((k2+1:Nat):Int):=by omega
     have tk:l.take (v3+k2+1)=l.take (v3+k2)++[l[v3+k2]]:=List.take_succ_eq_append_getElem hlt
     by_cases e:l[v3+k2]=l[v3+k2-1]
     · rw [show ne l[v3+k2] l[v3+k2-1]=false from by rw [Bool.eq_false_iff];exact fun h=>(hne _ _).1 h e]
       rw [_root_.cond_false,Option.bind_some]
       dsimp only
       rw [ar_add (by omega) (by omega),e4]
       refine ih k (k2+1) cur (by omega) (by omega) hc (by omega) hk1 (fun j h=>hj j (by omega)) hp (fun x=>?_) (by omega)
       rw [hm x,show v3+(k2+1)=v3+k2+1 by omega,tk,List.mem_append,List.mem_singleton]
       refine ⟨.inl,fun h=>h.elim id fun h=>?_⟩
       rw [h,e]
       exact List.mem_iff_getElem?.2 ⟨v3+k2-1,by rw [List.getElem?_take,if_pos (by omega)];exact List.getElem?_eq_getElem hlt'⟩
     · rw [show ne l[v3+k2] l[v3+k2-1]=true from (hne _ _).2 e]
       have hkl:k<cur.length:=by omega
       rw [_root_.cond_true,_root_.cond_true,Option.bind_some,at_nat,List.getElem?_eq_getElem hkl,Option.bind_some,Option.bind_some]
       unfold Sh.put
       rw [Option.bind_some]
       dsimp only
       rw [ar_add (by omega) (by omega),ar_add (by omega) (by omega),e4,show ((k:Int)+1)=((k+1:Nat):Int) by omega,Int.toNat_natCast]
       have hlast:lt l[v3+k2-1] l[v3+k2]:=by
        rcases List.pairwise_iff_getElem.1 hs (v3+k2-1) (v3+k2) hlt' hlt (by omega) with h | h
        · exact absurd h.symm e
        · exact h
       have tk2:(cur.set k l[v3+k2]).take (k+1)=cur.take k++[l[v3+k2]]:=by
        rw [List.take_succ_eq_append_getElem (by simpa using hkl),List.take_set_of_le (Nat.le_refl _),List.getElem_set_self]
       refine ih (k+1) (k2+1) _ (by omega) (by omega) (by simpa using hc) (by omega) (by omega) (fun j h=>?_) ?_ (fun x=>?_) (by omega)
       · rw [List.getElem?_set_ne (by omega)];exact hj j (by omega)
       · rw [tk2]
         refine List.pairwise_append.2 ⟨hp,List.pairwise_singleton _ _,fun x hx y hy=>?_⟩
         rw [List.mem_singleton] at hy
         subst hy
         have hx':=(hm x).1 hx
         obtain ⟨j,hj1⟩:=List.mem_iff_getElem?.1 hx'
         rw [List.getElem?_take] at hj1
         split at hj1
         case isFalse=>cases hj1
         rename_i hjl
         obtain ⟨hjl2,rfl⟩:=List.getElem?_eq_some_iff.1 hj1
         by_cases hje:j=v3+k2-1
         · subst hje;exact hlast
         · rcases List.pairwise_iff_getElem.1 hs j (v3+k2-1) hjl2 hlt' (by omega) with h | h
           · rw [h];exact hlast
           · exact tr _ _ _ h hlast
       · rw [tk2,show v3+(k2+1)=v3+k2+1 by omega,tk,List.mem_append,List.mem_append,hm x]
   · have he:v3+k2=l.length:=by omega
     rw [decide_eq_false (by omega),_root_.cond_false,win_t (l:=cur) (i:=k) (by omega) (by omega),_root_.cond_true]
     unfold clr
     rw [if_pos (win_t (l:=cur) (i:=k) (by omega) (by omega)),Option.bind_some,ar_sub (by omega) (by omega),Int.toNat_natCast]
     have hl2:(cur.take k++List.replicate ((cur.length:Int)-(k:Int)).toNat z).length=cur.length:=by
      rw [List.length_append,List.length_take,List.length_replicate];omega
     unfold cut
     rw [if_pos (win_t (by omega) (by omega)),Option.bind_some,Int.toNat_natCast]
     have tk3:(cur.take k++List.replicate ((cur.length:Int)-(k:Int)).toNat z).take k=cur.take k:=by
      rw [List.take_append_of_le_length (by rw [List.length_take];omega),List.take_take,Nat.min_self]
     rw [tk3]
     refine ⟨_,rfl,hp,fun x=>?_,by rw [List.length_take];omega⟩
     rw [hm x,he,List.take_length]
include heq in
theorem gl2_ok {N:Nat} (hN:l.length<N):∀(m k:Nat),1≤k→k≤l.length→(l.take k).Pairwise lt→l.length-k<m→∃r,gl2 c z ne eq N l m k=some r∧r.Pairwise lt∧(∀x,x∈r↔x∈l)∧r.length≤l.length:=by
 intro m
 induction m with
 | zero=>intro k _ _ _ h;omega
 | succ m ih=>
   intro k h1 hk hp hm
   rw [gl2,ll_eq,cm_lss]
   by_cases hlt:k<l.length
   · have hlt':k-1<l.length:=by omega
     rw [decide_eq_true (by omega),_root_.cond_true,at_nat,List.getElem?_eq_getElem hlt,Option.bind_some,Option.bind_some,ar_sub (by omega) (by omega),show ((k:Int)-1)=((k-1:Nat):Int) by omega,at_nat,List.getElem?_eq_getElem hlt',Option.bind_some,Option.bind_some]
     have tk:l.take (k+1)=l.take k++[l[k]]:=List.take_succ_eq_append_getElem hlt
     by_cases e:l[k]=l[k-1]
     · rw [(heq _ _).2 e,_root_.cond_true,win_t (by omega) (by omega),_root_.cond_true]
       refine gl3_ok hne tr hs hlen k h1 N k 1 l (by omega) (by omega) rfl (by omega) h1 (fun j _=>rfl) hp (fun x=>?_) (by omega)
       rw [tk,List.mem_append,List.mem_singleton]
       refine ⟨.inl,fun h=>h.elim id fun h=>?_⟩
       rw [h,e]
       exact List.mem_iff_getElem?.2 ⟨k-1,by rw [List.getElem?_take,if_pos (by omega)];exact List.getElem?_eq_getElem hlt'⟩
     · rw [show eq l[k] l[k-1]=false from by rw [Bool.eq_false_iff];exact fun h=>e ((heq _ _).1 h)]
       rw [_root_.cond_false,ar_add (by omega) (by omega),show ((k:Int)+1)=((k+1:Nat):Int) by omega]
       refine ih (k+1) (by omega) (by omega) ?_ (by omega)
       have hlast:lt l[k-1] l[k]:=by
        rcases List.pairwise_iff_getElem.1 hs (k-1) k hlt' hlt (by omega) with h | h
        · exact absurd h.symm e
        · exact h
       rw [tk]
       refine List.pairwise_append.2 ⟨hp,List.pairwise_singleton _ _,fun x hx y hy=>?_⟩
       rw [List.mem_singleton] at hy
       subst hy
       obtain ⟨j,hj1⟩:=List.mem_iff_getElem?.1 hx
       rw [List.getElem?_take] at hj1
       split at hj1
       case isFalse=>cases hj1
       rename_i hjl
       obtain ⟨hjl2,rfl⟩:=List.getElem?_eq_some_iff.1 hj1
       by_cases hje:j=k-1
       · subst hje;exact hlast
       · rcases List.pairwise_iff_getElem.1 hs j (k-1) hjl2 hlt' (by omega) with h | h
         · rw [h];exact hlast
         · exact tr _ _ _ h hlast
   · have he:k=l.length:=by omega
     rw [decide_eq_false (by omega),_root_.cond_false]
     rw [he,List.take_length] at hp
     exact ⟨l,rfl,hp,fun x=>Iff.rfl,Nat.le_refl _⟩
end
end Soo
end Go.Proofs.YtbpihhelojjedaaDoor
