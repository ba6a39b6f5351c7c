/- Texts that the proof leans on. -/
import Derived.Shelf.SlSortCmp.NoneTotal
import Derived.Test.YtpplemjjeefpdaaGreatDoorK225
import Derived.Lib.DecodeN
import Derived.Sort.Walk0
import Derived.StillTailTactics
import Derived.Laws.Cover1
set_option linter.unusedVariables false
set_option linter.unusedSimpArgs false
set_option maxRecDepth 100000
set_option maxHeartbeats 4000000
namespace Go.Proofs.YtpplemjjeefpdaaGreatDoor
open Go Go.RowKit Go.Sort
open Ab
namespace Sh
section
variable {α:Type} [Inhabited α] {enc:α→List Value} {c:α→List Ab.T} {k:Nat} (hc:∀x,c x=(enc x).map Ab.T.flat) (hk:∀x,(enc x).length=k) (ho:∀x,∀v∈enc x,oneV v=true)
include hc hk
omit [Inhabited α] in
theorem rowK_of {l:List α} {i j:Nat} {t:Ab.T} (h:((rw _ c l)[i]?).bind (fun r=>r[j]?)=some t):∃(hi:i<l.length) (hj:j<k),t=.flat ((enc l[i])[j]'(by rw [hk];exact hj)):=by
 unfold rw at h
 rw [List.getElem?_map] at h
 cases hx:l[i]? with
 | none=>rw [hx] at h;cases h
 | some s=>
   rw [hx] at h
   obtain ⟨hi,rfl⟩:=List.getElem?_eq_some_iff.1 hx
   simp only [Option.map_some,Option.bind_some,hc] at h
   rw [List.getElem?_map] at h
   cases hy:(enc l[i])[j]? with
   | none=>rw [hy] at h;cases h
   | some u=>
     rw [hy] at h
     obtain ⟨hj,rfl⟩:=List.getElem?_eq_some_iff.1 hy
     simp at h
     exact ⟨hi,by rw [←hk l[i]];exact hj,h.symm⟩
omit [Inhabited α] in
theorem rowK_at {l:List α} {i j:Nat} (hi:i<l.length) (hj:j<k):((rw _ c l)[i]?).bind (fun r=>r[j]?)=some (.flat ((enc l[i])[j]'(by rw [hk];exact hj))):=by
 unfold rw
 rw [List.getElem?_map,List.getElem?_eq_getElem hi]
 simp only [Option.map_some,Option.bind_some,hc]
 rw [List.getElem?_map,List.getElem?_eq_getElem (by rw [hk];exact hj)]
 rfl
omit hc in
theorem flat_at {d:List α} {i j:Nat} (hi:i<d.length) (hj:j<k):(flatK enc k d.toArray)[i*k+j]! =(enc d[i])[j]'(by rw [hk];exact hj):=by
 have hlt:i*k+j<d.length*k:=by
  have:=Nat.mul_le_mul_right k (show i+1≤d.length from hi)
  rw [Nat.add_mul,Nat.one_mul] at this
  omega
 rw [get_flatK _ _ _ _ (by simpa using hlt)]
 have hkp:0<k:=by omega
 rw [show (i*k+j) / k=i by rw [Nat.mul_comm,Nat.mul_add_div hkp,Nat.div_eq_of_lt hj,Nat.add_zero],show (i*k+j) % k=j by rw [Nat.mul_comm,Nat.mul_add_mod,Nat.mod_eq_of_lt hj]]
 rw [show d.toArray[i]! =d[i] from by rw [getElem!_pos d.toArray i (by simpa using hi)];simp]
 rw [getElem!_pos]
include ho
theorem sortK_methL {P:Program} {f g:FuncId} (hcall:Callable P f) {m:List α→List α} (hm:∀l,(m l).length=l.length)
 (hC:∀(blk cap:Nat) (d:Array α) (w:World),HoldsK enc k w blk 0 d→blk<w.heap.size→d.size<4611686018427387904→
  Calls P f #[.slice (some ⟨blk,0,none⟩) d.size cap,.func (.func g) #[] #[]] w fun e w'=>e=.returned (.tuple #[])∧∃n os,w'=sortWorldK enc k w blk 0 n (m d.toList).toArray os)
 (l:List α) (hlen:l.length≤1000000000) (ty:TypeId):MethL P f ty k (rw _ c l) [.fn g []] (.tup []) (rw _ c (m l)):=by
 refine ⟨hcall,fun G w b cap cargs hG hT hrow hargs=>?_⟩
 have hl:(rw _ c l).length=l.length:=by unfold rw;rw [List.length_map]
 have hl2:(rw _ c (m l)).length=l.length:=by unfold rw;rw [List.length_map,hm]
 obtain ⟨u0,r0,rfl,hu,hr0⟩:=hargs.uncons
 obtain rfl:r0=#[]:=by have:=hr0.1;simpa using this
 cases hu with
 | fn f' cs vs0 hn0 hr0=>
 obtain rfl:vs0=#[]:=by simpa using hn0
 generalize hrows:rw _ c l=rows at hrow
 cases hrow with
 | listN _ _ hat=>cases hat
 | list _ _ _ b' cap' vs hat hb hGb hcap hmax hsz hes hr=>
   subst hrows
   have hat:some (Blk.at b cap k (rw _ c l).length)=some (Blk.at b' cap' k (rw _ c l).length):=hat
   cases hat
   rw [hl] at hcap ⊢
   have hblt:b<w.heap.size:=(Array.getElem?_eq_some_iff.1 hb).1
   have cell:∀i j (hi:i<l.length) (hj:j<k),vs[i*k+j]?=some ((enc l[i])[j]'(by rw [hk];exact hj)):=fun i j hi hj=>by
    obtain ⟨u,h1,h2⟩:=hr i j _ (rowK_at hc hk hi hj)
    cases h2
    exact h1
   have hH:HoldsK enc k w b 0 l.toArray:=fun t ht=>by
    have ht':t<l.length*k:=by simpa using ht
    have hkp:0<k:=Nat.pos_of_ne_zero fun e=>by rw [e] at ht';simp at ht'
    have hi:t / k<l.length:=Nat.div_lt_of_lt_mul (by rw [Nat.mul_comm];exact ht')
    have hj:t % k<k:=Nat.mod_lt _ hkp
    have e:t / k*k+t % k=t:=Nat.div_add_mod' t k
    have h1:=cell _ _ hi hj
    have h2:=flat_at hk (d:=l) hi hj
    rw [e] at h1 h2
    refine ⟨?_,?_⟩
    · rw [Nat.zero_add]
      simp only [World.cell?,hb,id]
      rw [h2]
      exact h1
    · simp [World.frozen?,hb,Nat.zero_add]
   have key:=hC b cap l.toArray w hH hblt (by simp;omega)
   simp only [List.size_toArray] at key
   refine key.mono ?_
   rintro e w' ⟨rfl,n,os,rfl⟩
   have hdl:(m l).length=l.length:=hm l
   have hh:(sortWorldK enc k w b 0 n (m l).toArray os).heap[b]?=some (.cells (putCells id 0 (flatK enc k (m l).toArray) vs) ty (0,0)):=by
    unfold sortWorldK grow putRowK putRow mapBlock
    dsimp only
    rw [Array.getElem?_append_left (by simpa using hblt),Array.getElem?_modify,if_pos rfl]
    show (w.heap[b]?).map _=_
    rw [hb];rfl
   have hsz2:(putCells id 0 (flatK enc k (m l).toArray) vs).size=vs.size:=by unfold putCells;rw [Array.size_mapIdx]
   have hws:w.heap.size≤(sortWorldK enc k w b 0 n (m l).toArray os).heap.size:=by
    unfold sortWorldK grow putRowK putRow mapBlock
    simp
   refine ⟨⟨rfl,rfl,rfl,hws,fun k' hk' hne=>?_⟩,.tuple #[],rfl,hl2,?_,.tup _ _ rfl (fun i c u h=>by simp at h)⟩
   · unfold sortWorldK grow putRowK putRow mapBlock
     dsimp only
     rw [Array.getElem?_append_left (by simpa using hk'),Array.getElem?_modify,if_neg (Ne.symm hne)]
     rfl
   · refine .list ty k (rw _ c (m l)) b cap (putCells id 0 (flatK enc k (m l).toArray) vs) (by rw [hl2];rfl) hh ?_ (by rw [hl2];exact hcap) hmax (by rw [hsz2];exact hsz) (fun row hrow=>?_) (fun i j t ht=>?_)
     · rintro (h | ⟨h1,h2⟩)
       · exact hGb h
       · omega
     · unfold rw at hrow
       obtain ⟨s,_,rfl⟩:=List.mem_map.1 hrow
       rw [hc,List.length_map,hk]
     · obtain ⟨hi,hj,rfl⟩:=rowK_of hc hk ht
       have hi':i<l.length:=by rwa [hdl] at hi
       refine ⟨_,?_,.flat _ (ho _ _ (List.getElem_mem _))⟩
       have hvl:i*k+j<vs.size:=(Array.getElem?_eq_some_iff.1 (cell i j hi' hj)).1
       unfold putCells
       rw [Array.getElem?_mapIdx,Array.getElem?_eq_getElem hvl]
       simp only [Option.map_some]
       have hlt:i*k+j<(flatK enc k (m l).toArray).size:=by
        rw [size_flatK]
        have:=Nat.mul_le_mul_right k (show i+1≤(m l).length from hi)
        rw [Nat.add_mul,Nat.one_mul] at this
        simp only [List.size_toArray]
        omega
       rw [if_pos ⟨Nat.zero_le _,by omega⟩,Nat.sub_zero,flat_at hk hi hj]
       rfl
end
def NoneL (P:Program) (f:FuncId) (args:List V):Prop:=
 Callable P f∧∀(G:Nat→Prop) (w:World) (p:Option Addr) (cap:Nat) (cargs:Array Value),VReps (Cx.none G) w args cargs→Calls P f (#[.slice p 0 cap]++cargs) w fun e w'=>e=.returned (.tuple #[])∧w'=w
theorem call_noneL {P:Program} {A:Run} {f:FuncId} {ty es id:Nat} {args:List V} {s:St} {K:V→St→Prop} (hM:NoneL P f args) (hrow:s.heap.getD id none=some (.list ty es [])) (hca:args.all V.closedB=true) (hK:K (.tup []) s):CallA P A f (.lst id::args) s K:=by
 refine ⟨hM.1,fun cx a w cargs R hargs=>?_⟩
 obtain ⟨u0,r0,rfl,hu,hr⟩:=hargs.uncons
 have hR:=R.hp.row id _ (getD_row hrow)
 have fin:∀p cap,Calls P f (#[.slice p 0 cap]++r0) w fun e w'=>(∃u v s' cx',e=.returned u∧K v s'∧VRep cx' w' v u∧Rel A cx' s' a w')∨∃ch,e=.panicked ch∧PanAt A a ch w':=fun p cap=>by
  refine (hM.2 cx.G w p cap r0 (closed_reps hr hca)).mono ?_
  rintro e w' ⟨rfl,rfl⟩
  exact .inl ⟨_,_,s,cx,rfl,hK,.tup _ _ rfl (fun i c u h=>by simp at h),R⟩
 cases hu with
 | lstN id h'=>exact fin _ _
 | lst id b cap es' len h'=>
   cases hR with
   | listN _ _ hat=>rw [hat] at h';cases h'
   | list _ _ _ b' cap' vs hat=>
     rw [hat] at h'
     cases h'
     exact fin _ _
theorem set_same {α:Type}:∀{l:List α} {i:Nat} {x:α},l[i]?=some x→l.set i x=l
 | [],_,_,h=>by simp at h
 | a::l,0,x,h=>by simp at h;subst h;rfl
 | a::l,i+1,x,h=>by rw [List.set_cons_succ,set_same (by simpa using h)]
def sortK_g {α:Type} (m:List α→List α) (l:List α):Option (List α):=if l.length≤1000000000 then some (m l) else none
theorem L_sortK {P:Program} {A:Run} {W:Wd} {E:Env} (hE:dom P A=mkE W E) {R:RF} (hR:R=rw) {α:Type} {c:α→List Ab.T} {k:Nat} {m:List α→List α} {f:FuncId} {args:List V} {ty id:Nat} {l:List α} {β:Type} {v:β} {X:List α→Option β} {s:St} {K:V→St→Prop} (h:(sortK_g m l).bind X=some v)
 (hM:∀(l:List α),l.length≤1000000000→∀ty,MethL P f ty k (rw _ c l) args (.tup []) (rw _ c (m l))) (hN:NoneL P f args) (hm:m []=[]) (hca:args.all V.closedB=true) (hrow:s.heap.getD id none=some (.list ty k (R _ c l))) (hK:∀x,X x=some v→K (.tup []) (s.setRow id (.list ty k (R _ c x)))):E.call f (.lst id::args) s K:=by
 unfold sortK_g at h
 split at h
 case isFalse=>cases h
 rename_i hc
 have hcall:(mkE W E).call f (.lst id::args) s K:=by
  rw [←hE]
  subst hR
  cases l with
  | nil=>
    have h0:=hK _ h
    rw [hm] at h0
    have e:s.setRow id (.list ty k (rw _ c []))=s:=by
     unfold St.setRow
     rw [set_same (getD_row hrow)]
    rw [e] at h0
    exact call_noneL hN hrow hca h0
  | cons a r=>exact call_methL (hM _ hc ty) hrow (fun e=>by cases e) hca (hK _ h)
 exact hcall
end Sh
end Go.Proofs.YtpplemjjeefpdaaGreatDoor
namespace Go.Proofs.YtpplemjjeefpdaaGreatDoor
open Go
namespace Mx
abbrev Pos:=Nat→Bool
def zr:Pos:=fun _=>false
def orP (a b:Pos):Pos:=fun j=>a j||b j
def one (S:CSet) (s:List UInt8) (x:Pos):Pos:=fun j=>match j with
 | 0=>false
 | i+1=>x i&&(match s[i]? with | some c=>S.has c.toNat | _=>false)
def iter (f:Pos→Pos):Nat→Pos→Pos
 | 0,x=>x
 | k+1,x=>iter f k (f x)
def upto (f:Pos→Pos):Nat→Pos→Pos
 | 0,x=>x
 | k+1,x=>orP x (f (upto f k x))
def more (long:Nat) (mn mx:Int):Nat:=if mx=-1 then long else (mx-mn).toNat
mutual
def sp (s:List UInt8):Node→Pos→Pos
 | .mk k S kids mn mx=>fun x=>if k=1 then one S s x else if k=2 then spCat s kids x else if k=3 then spAlt s kids x else spRep s kids mn mx x
def spCat (s:List UInt8):List Node→Pos→Pos
 | []=>fun x=>x
 | n::r=>fun x=>spCat s r (sp s n x)
def spAlt (s:List UInt8):List Node→Pos→Pos
 | []=>fun _=>zr
 | n::r=>fun x=>orP (sp s n x) (spAlt s r x)
def spRep (s:List UInt8) (kids:List Node) (mn mx:Int):Pos→Pos:=match kids with
 | []=>fun _=>zr
 | n::_=>fun x=>upto (sp s n) (more s.length mn mx) (iter (sp s n) mn.toNat x)
end
structure Adds (f:Pos→Pos):Prop where
 or_:∀a b,f (orP a b)=orP (f a) (f b)
 none_:f zr=zr
theorem Adds.comp {f g:Pos→Pos} (hf:Adds f) (hg:Adds g):Adds (fun x=>g (f x)):=⟨fun a b=>by rw [hf.or_,hg.or_],by rw [hf.none_,hg.none_]⟩
theorem Adds.id:Adds (fun x=>x):=⟨fun _ _=>rfl,rfl⟩
theorem Adds.iter {f:Pos→Pos} (hf:Adds f):∀k,Adds (iter f k)
 | 0=>Adds.id
 | k+1=>hf.comp (Adds.iter hf k)
def Sup (N:Nat) (x:Pos):Prop:=∀j,N≤j→x j=false
def Keeps (N:Nat) (f:Pos→Pos):Prop:=∀x,Sup N x→Sup N (f x)
theorem Keeps.iter {N:Nat} {f:Pos→Pos} (hf:Keeps N f):∀k,Keeps N (iter f k)
 | 0=>fun _ h=>h
 | k+1=>fun x h=>Keeps.iter hf k _ (hf x h)
end Mx
end Go.Proofs.YtpplemjjeefpdaaGreatDoor
namespace Go.Proofs.YtpplemjjeefpdaaGreatDoor
open Go
namespace Rx
section
variable {l m:List UInt8} {k:Nat} {c:Int}
def Sim {α:Type} (k:Nat) (L:Prop) (r r':Res α):Prop:=∀a p,r=.ok a p→r'=.ok a (p+k)∨(L∧∃q,r'=.bad 3 q)
variable {at1 at2:Nat→Res Node} {L:Prop}
variable (hf:∀i,i≤l.length→Fine l i (at1 i)) (ha:∀i,i≤l.length→Sim k L (at1 i) (at2 (i+k)))
include hf ha
end
end Rx
namespace Rx
def Bads {α:Type} (l:List UInt8) (r:Res α):Prop:=∀e p,r=.bad e p→(e=1∨e=2∨e=3)∧p≤l.length
variable {l:List UInt8}
end Rx
end Go.Proofs.YtpplemjjeefpdaaGreatDoor
namespace Go.Proofs.YtpplemjjeefpdaaGreatDoor.Nm
def letterB (c:Int):Bool:=c==95||(decide (97≤c)&&decide (c≤122))||(decide (65≤c)&&decide (c≤90))
def digitB (c:Int):Bool:=decide (48≤c)&&decide (c≤57)
def signB (c:Int) (first:Bool):Bool:=letterB c||(!first&&digitB c)
def run (g:Int→Bool→Bool):Bool→List UInt8→Nat
 | _,[]=>0
 | f,c::r=>if g c.toNat f then run g false r+1 else 0
def allB (g:Int→Bool→Bool) (l:List UInt8):Bool:=run g true l==l.length
def labelB (l:List UInt8):Bool:=decide (1≤l.length)&&decide (l.length≤32)&&allB signB l
end Go.Proofs.YtpplemjjeefpdaaGreatDoor.Nm
namespace Go.Proofs.YtpplemjjeefpdaaGreatDoor
open Go Go.Lib
namespace Qu
def runeN (n b0 b1 b2 b3:Nat):Nat:=
 if b0<128 then 1
 else if 194≤b0∧b0≤223∧1<n∧128≤b1∧b1≤191 then 2
 else if 224≤b0∧b0≤239∧(2<n∧128≤b1∧b1≤191∧128≤b2∧b2≤191)∧(b0≠224∨160≤b1)∧(b0≠237∨b1<160) then 3
 else if 240≤b0∧b0≤244∧(3<n∧128≤b1∧b1≤191∧128≤b2∧b2≤191∧128≤b3∧b3≤191)∧(b0≠240∨144≤b1)∧(b0≠244∨b1<144) then 4
 else 0
def bt (l:List UInt8) (i:Nat):Nat:=match l[i]? with | some b=>b.toNat | none=>0
def rune (l:List UInt8) (i:Nat):Nat:=runeN (l.length-i) (bt l i) (bt l (i+1)) (bt l (i+2)) (bt l (i+3))
def unit (l:List UInt8) (i:Nat):Nat:=if rune l i=0 then 1 else rune l i
def safe (l:List UInt8) (i:Nat):Bool:=decide (0<rune l i)&&decide (32≤bt l i)&&decide (bt l i≠127)
def hexd (n:Nat):UInt8:=if n<10 then UInt8.ofNat (48+n) else UInt8.ofNat (87+n)
def enc (l:List UInt8) (i:Nat):List UInt8:=
 if bt l i=34∨bt l i=92 then [92,UInt8.ofNat (bt l i)] else if safe l i=true then (l.drop i).take (unit l i) else [92,120,hexd (bt l i / 16),hexd (bt l i % 16)]
def encs (l:List UInt8):Nat→Nat→List UInt8
 | 0,_=>[]
 | f+1,i=>if i<l.length then enc l i++encs l f (i+unit l i) else []
def text (l:List UInt8):List UInt8:=34::(encs l (l.length+1) 0++[34])
def rest (l:List UInt8) (i:Nat):List UInt8:=encs l (l.length+1) i
def dig (b:Nat):Nat:=if 48≤b∧b≤57 then b-48 else if 97≤b∧b≤102 then b-87 else 16
inductive Esc where
 | ok (b:Nat) (n:Nat)
 | bad (e:Nat)
 deriving DecidableEq
def esc (l:List UInt8) (i:Nat):Esc:=
 if l.length<i+2 then .bad 1
 else if bt l (i+1)=34∨bt l (i+1)=92 then .ok (bt l (i+1)) 2
 else if bt l (i+1)≠120 then .bad 2
 else if l.length<i+3 then .bad 1
 else if dig (bt l (i+2))=16 then .bad 2
 else if l.length<i+4 then .bad 1
 else if dig (bt l (i+3))=16 then .bad 2
 else .ok (16*dig (bt l (i+2))+dig (bt l (i+3))) 4
inductive Got where
 | ok (t:List UInt8) (p:Nat)
 | bad (e:Nat) (p:Nat)
inductive Un where
 | ok (t:List UInt8) (n:Nat)
 | bad (e:Nat) (p:Nat)
def un (l:List UInt8) (i:Nat):Un:=
 if bt l i=92 then (match esc l i with | .ok b n=>.ok [UInt8.ofNat b] n | .bad e=>.bad e (if e=1 then l.length else i))
 else if safe l i=true then .ok ((l.drop i).take (unit l i)) (unit l i)
 else .bad 2 i
def body (l:List UInt8):Nat→List UInt8→Nat→Got
 | 0,_,_=>.bad 1 l.length
 | f +1,out,i=>
   if i<l.length then
    if bt l i=34 then .ok out (i+1)
    else match un l i with
     | .ok t n=>body l f (out++t) (i+n)
     | .bad e p=>.bad e p
   else .bad 1 l.length
def read (l:List UInt8) (at_:Int):Got:=
 if at_<0∨(l.length:Int)<at_ then .bad 7 0
 else if at_=l.length then .bad 1 at_.toNat
 else if bt l at_.toNat≠34 then .bad 2 at_.toNat
 else body l (l.length+1) [] (at_.toNat+1)
def go (l:List UInt8) (out:List UInt8) (i:Nat):Got:=body l (l.length+1) out i
end Qu
end Go.Proofs.YtpplemjjeefpdaaGreatDoor
namespace Go.Proofs.YtpplemjjeefpdaaGreatDoor
open Go
namespace Mt
def ofL (l:List UInt8):ByteArray:=⟨l.toArray⟩
structure M where
 name:ByteArray
 op:Int
 val:ByteArray
def right (m:M):Int:=
 if Nm.labelB m.name.data.toList=false then 4 else if m.op<1∨4<m.op then 7 else if m.op≤2 then (if 1024<m.val.size then 3 else 0) else (Rx.parse m.val.data.toList).2.1
structure L where
 name:ByteArray
 val:ByteArray
def cmpL (a b:List UInt8):Int:=if Op.bytesLess a b=true then-1 else if a=b then 0 else 1
def cmpI (a b:Int):Int:=if a<b then-1 else if a=b then 0 else 1
def cmp (a b:M):Int:=if cmpL a.name.data.toList b.name.data.toList≠0 then cmpL a.name.data.toList b.name.data.toList else if cmpI a.op b.op≠0 then cmpI a.op b.op else cmpL a.val.data.toList b.val.data.toList
def sgn (o:Int):List UInt8:=if o=1 then [61] else if o=2 then [33,61] else if o=3 then [61,126] else if o=4 then [33,126] else [63]
def text (m:M):List UInt8:=m.name.data.toList++sgn m.op++Qu.text m.val.data.toList
def opAt (l:List UInt8) (k:Nat):Nat:=
 if Qu.bt l k=61 then (if Qu.bt l (k+1)=126 then 3 else 1) else if Qu.bt l k=33 then (if Qu.bt l (k+1)=61 then 2 else if Qu.bt l (k+1)=126 then 4 else 0) else 0
def opBad (l:List UInt8) (k:Nat):Nat × Nat:=if k=l.length then (1,k) else if Qu.bt l k=33∧k+1=l.length then (1,k+1) else (2,k)
inductive Got where
 | ok (m:M) (p:Nat)
 | bad (e:Int) (p:Nat)
def take (l:List UInt8) (at_:Int):Got:=
 if at_<0∨(l.length:Int)<at_ then .bad 7 0
 else if at_=l.length then .bad 1 at_.toNat
 else if Nm.run Nm.signB true (l.drop at_.toNat)<1∨32<Nm.run Nm.signB true (l.drop at_.toNat) then .bad 4 at_.toNat
 else if opAt l (at_.toNat+Nm.run Nm.signB true (l.drop at_.toNat))=0 then .bad (opBad l (at_.toNat+Nm.run Nm.signB true (l.drop at_.toNat))).1 (opBad l (at_.toNat+Nm.run Nm.signB true (l.drop at_.toNat))).2
 else match Qu.read l (at_.toNat+Nm.run Nm.signB true (l.drop at_.toNat)+(sgn (opAt l (at_.toNat+Nm.run Nm.signB true (l.drop at_.toNat)))).length:Nat) with
  | .bad e p=>.bad e p
  | .ok v p=>
    if right ⟨ofL ((l.drop at_.toNat).take (Nm.run Nm.signB true (l.drop at_.toNat))),opAt l (at_.toNat+Nm.run Nm.signB true (l.drop at_.toNat)),ofL v⟩≠0
    then .bad (right ⟨ofL ((l.drop at_.toNat).take (Nm.run Nm.signB true (l.drop at_.toNat))),opAt l (at_.toNat+Nm.run Nm.signB true (l.drop at_.toNat)),ofL v⟩) (at_.toNat+Nm.run Nm.signB true (l.drop at_.toNat)+(sgn (opAt l (at_.toNat+Nm.run Nm.signB true (l.drop at_.toNat)))).length)
    else .ok ⟨ofL ((l.drop at_.toNat).take (Nm.run Nm.signB true (l.drop at_.toNat))),opAt l (at_.toNat+Nm.run Nm.signB true (l.drop at_.toNat)),ofL v⟩ p
end Mt
end Go.Proofs.YtpplemjjeefpdaaGreatDoor
namespace Go.Proofs.YtpplemjjeefpdaaGreatDoor
open Go
namespace Sl
open Mt (M)
def tl:List M→List UInt8
 | []=>[]
 | m::r=>44::32::(Mt.text m++tl r)
inductive Got where
 | ok (l:List M) (p:Nat)
 | bad (e:Int) (p:Nat)
def other (s:List UInt8) (p:Nat):Got:=if s.length≤p then .bad 1 s.length else .bad 2 p
def loop (s:List UInt8):Nat→List M→Nat→Got
 | 0,_,_=>.bad 1 s.length
 | f+1,out,i=>
   if out.length=64∧i<s.length then .bad 3 i
   else match Mt.take s i with
    | .bad e p=>.bad e p
    | .ok m p=>
      if Qu.bt s p=125 then .ok (out++[m]) (p+1)
      else if Qu.bt s p≠44 then other s p
      else if Qu.bt s (p+1)≠32 then other s (p+1)
      else loop s f (out++[m]) (p+2)
def take (s:List UInt8) (at_:Int):Got:=
 if at_<0∨(s.length:Int)<at_ then .bad 7 0
 else if Qu.bt s at_.toNat≠123 then other s at_.toNat
 else if Qu.bt s (at_.toNat+1)=125 then .ok [] (at_.toNat+2)
 else loop s (s.length+1) [] (at_.toNat+1)
end Sl
end Go.Proofs.YtpplemjjeefpdaaGreatDoor
namespace Go.Proofs.YtpplemjjeefpdaaGreatDoor
open Go
namespace Sl
open Mt (M)
theorem rise_uniq {α:Type} {lt:α→α→Prop} (irr:∀a,¬ lt a a) (tr:∀a b c,lt a b→lt b c→lt a c):∀(l m:List α),l.Pairwise lt→m.Pairwise lt→(∀x,x∈l↔x∈m)→l=m
 | [],[],_,_,_=>rfl
 | [],b::m,_,_,h=>absurd ((h b).2 (by simp)) (by simp)
 | a::l,[],_,_,h=>absurd ((h a).1 (by simp)) (by simp)
 | a ::l,b::m,hl,hm,h=>by
   rw [List.pairwise_cons] at hl hm
   have hab:a=b:=by
    rcases List.mem_cons.1 ((h a).1 (by simp)) with e | e
    · exact e
    · rcases List.mem_cons.1 ((h b).2 (by simp)) with e' | e'
      · exact e'.symm
      · exact absurd (tr _ _ _ (hl.1 b e') (hm.1 a e)) (irr a)
   subst hab
   rw [rise_uniq irr tr l m hl.2 hm.2 fun x=>?_]
   have hx:=h x
   simp only [List.mem_cons] at hx
   constructor
   · intro hin
     rcases hx.1 (.inr hin) with e | e
     · subst e;exact absurd (hl.1 x hin) (irr x)
     · exact e
   · intro hin
     rcases hx.2 (.inr hin) with e | e
     · subst e;exact absurd (hm.1 x hin) (irr x)
     · exact e
theorem cmpL_neg {a b:List UInt8}:Mt.cmpL a b<0↔a<b:=by
 unfold Mt.cmpL
 rw [bytesLess_eq]
 by_cases h:a<b
 · simp [h]
 · have:¬(decide (a<b)=true):=by simpa using h
   rw [if_neg this]
   simp only [h,iff_false]
   split<;>omega
theorem cmpL_zero {a b:List UInt8}:Mt.cmpL a b=0↔a=b:=by
 unfold Mt.cmpL
 rw [bytesLess_eq]
 by_cases h:a<b
 · have:a≠b:=fun e=>by subst e;exact List.lt_irrefl a h
   simp [h,this]
 · have h':¬(decide (a<b)=true):=by simpa using h
   rw [if_neg h']
   by_cases e:a=b
   · simp [e]
   · simp [e]
theorem listlt_tri (a b:List UInt8):a<b∨a=b∨b<a:=by
 by_cases h:a<b
 · exact .inl h
 by_cases e:a=b
 · exact .inr (.inl e)
 · refine .inr (.inr ?_)
   rcases List.le_iff_lt_or_eq.1 (List.not_lt.1 h) with g | g
   · exact g
   · exact absurd g.symm e
def lt (a b:M):Prop:=Mt.cmp a b<0
theorem cmpI_neg {a b:Int}:Mt.cmpI a b<0↔a<b:=by unfold Mt.cmpI;split<;>(try split)<;>omega
theorem cmpI_zero {a b:Int}:Mt.cmpI a b=0↔a=b:=by unfold Mt.cmpI;split<;>(try split)<;>omega
theorem lt_iff (a b:M):lt a b↔a.name.data.toList<b.name.data.toList∨(a.name.data.toList=b.name.data.toList∧(a.op<b.op∨(a.op=b.op∧a.val.data.toList<b.val.data.toList))):=by
 unfold lt Mt.cmp
 by_cases h1:Mt.cmpL a.name.data.toList b.name.data.toList=0
 · rw [if_neg (by omega)]
   have e1:=cmpL_zero.1 h1
   have n1:¬ a.name.data.toList<b.name.data.toList:=by rw [e1];exact List.lt_irrefl _
   by_cases h2:Mt.cmpI a.op b.op=0
   · rw [if_neg (by omega)]
     have e2:=cmpI_zero.1 h2
     rw [cmpL_neg]
     constructor
     · intro h;exact .inr ⟨e1,.inr ⟨e2,h⟩⟩
     · rintro (h | ⟨_,h | ⟨_,h⟩⟩)
       · exact absurd h n1
       · omega
       · exact h
   · rw [if_pos h2,cmpI_neg]
     have n2:¬ a.op=b.op:=fun e=>h2 (cmpI_zero.2 e)
     constructor
     · intro h;exact .inr ⟨e1,.inl h⟩
     · rintro (h | ⟨_,h | ⟨h,_⟩⟩)
       · exact absurd h n1
       · exact h
       · exact absurd h n2
 · rw [if_pos h1,cmpL_neg]
   have n1:¬ a.name.data.toList=b.name.data.toList:=fun e=>h1 (cmpL_zero.2 e)
   constructor
   · intro h;exact .inl h
   · rintro (h | ⟨h,_⟩)
     · exact h
     · exact absurd h n1
theorem dat_inj {s t:ByteArray} (h:s.data.toList=t.data.toList):s=t:=ByteArray.ext (Array.ext' h)
theorem cmp_zero {a b:M}:Mt.cmp a b=0↔a=b:=by
 unfold Mt.cmp
 constructor
 · intro h
   by_cases h1:Mt.cmpL a.name.data.toList b.name.data.toList=0
   · rw [if_neg (by omega)] at h
     by_cases h2:Mt.cmpI a.op b.op=0
     · rw [if_neg (by omega)] at h
       have e1:=dat_inj (cmpL_zero.1 h1)
       have e2:=cmpI_zero.1 h2
       have e3:=dat_inj (cmpL_zero.1 h)
       cases a;cases b
       simp only at e1 e2 e3
       subst e1 e2 e3
       rfl
     · rw [if_pos h2] at h;exact absurd h h2
   · rw [if_pos h1] at h;exact absurd h h1
 · intro e
   subst e
   rw [if_neg (by rw [cmpL_zero.2 rfl];simp),if_neg (by rw [cmpI_zero.2 rfl];simp)]
   exact cmpL_zero.2 rfl
theorem lt_irr (a:M):¬ lt a a:=by unfold lt;rw [cmp_zero.2 rfl];omega
theorem lt_tr (a b c:M) (h:lt a b) (g:lt b c):lt a c:=by
 rw [lt_iff] at h g ⊢
 rcases h with h | ⟨h1,h⟩
 · rcases g with g | ⟨g1,g⟩
   · exact .inl (List.lt_trans h g)
   · rw [←g1];exact .inl h
 · rcases g with g | ⟨g1,g⟩
   · rw [h1];exact .inl g
   · refine .inr ⟨h1.trans g1,?_⟩
     rcases h with h | ⟨h2,h⟩
     · rcases g with g | ⟨g2,g⟩
       · exact .inl (by omega)
       · exact .inl (by omega)
     · rcases g with g | ⟨g2,g⟩
       · exact .inl (by omega)
       · exact .inr ⟨by omega,List.lt_trans h g⟩
theorem lt_tri (a b:M):lt a b∨a=b∨lt b a:=by
 rw [lt_iff,lt_iff]
 rcases listlt_tri a.name.data.toList b.name.data.toList with h | h | h
 · exact .inl (.inl h)
 · rcases Int.lt_trichotomy a.op b.op with g | g | g
   · exact .inl (.inr ⟨h,.inl g⟩)
   · rcases listlt_tri a.val.data.toList b.val.data.toList with k | k | k
     · exact .inl (.inr ⟨h,.inr ⟨g,k⟩⟩)
     · refine .inr (.inl (cmp_zero.1 ?_))
       have e1:=dat_inj h
       have e3:=dat_inj k
       cases a;cases b
       simp only at e1 g e3
       subst e1 g e3
       exact cmp_zero.2 rfl
     · exact .inr (.inr (.inr ⟨h.symm,.inr ⟨g.symm,k⟩⟩))
   · exact .inr (.inr (.inr ⟨h.symm,.inl g⟩))
 · exact .inr (.inr (.inl h))
end Sl
end Go.Proofs.YtpplemjjeefpdaaGreatDoor
namespace Go.Proofs.YtpplemjjeefpdaaGreatDoor
open Go Go.RowKit Go.Sort
namespace Sr
theorem nan_s (a:ByteArray) (w:World):Calls Tryz.prog 116 #[.string a] w (Ret (.bool false) w):=by
 go_enter Tryz.func116,Tryz.ntmps116
 go_wp2
 exact bodyPost_ret (v:=.bool false) (by simp [results,Tryz.results116,go_sem]) rfl ⟨rfl,rfl⟩
theorem nan_i (a:Int) (w:World):Calls Tryz.prog 117 #[.int .i64 a] w (Ret (.bool false) w):=by
 go_enter Tryz.func117,Tryz.ntmps117
 go_wp2
 exact bodyPost_ret (v:=.bool false) (by simp [results,Tryz.results117,go_sem]) rfl ⟨rfl,rfl⟩
theorem less_iff (a b:ByteArray):Op.bytesLess a.toList b.toList=decide (a.data.toList<b.data.toList):=by
 rw [ByteArray.toList_eq,ByteArray.toList_eq];exact bytesLess_eq ..
theorem beq_iff (a b:ByteArray):(a.toList==b.toList)=decide (a.data.toList=b.data.toList):=by
 rw [ByteArray.toList_eq,ByteArray.toList_eq];exact Bool.beq_eq_decide_eq _ _
theorem cmps_any (a b:ByteArray) (w:World):Calls Tryz.prog 80 #[.string a,.string b] w (Ret (.int .i64 (Mt.cmpL a.data.toList b.data.toList)) w):=by
 have H1:=hide (nan_s a w)
 have H2:=hide (nan_s b w)
 have l1:=less_iff a b
 have l2:=less_iff b a
 have l3:=beq_iff a b
 rcases Sl.listlt_tri a.data.toList b.data.toList with h | h | h
 · have HC:Hid (Mt.cmpL a.data.toList b.data.toList=-1):=hid_mk (by unfold Mt.cmpL;rw [if_pos (by rw [bytesLess_eq];simpa using h)])
   rw [HC.out]
   have hn:¬ b.data.toList<a.data.toList:=fun g=>List.lt_irrefl _ (List.lt_trans h g)
   have he:¬ a.data.toList=b.data.toList:=fun e=>by rw [e] at h;exact List.lt_irrefl _ h
   rw [decide_eq_true h] at l1
   rw [decide_eq_false hn] at l2
   rw [decide_eq_false he] at l3
   clear h hn he
   go_enter Tryz.func80,Tryz.ntmps80
   go_wp2_with (go_at_call 116;(first | with_reducible refine (unhide H1).mono ?_ | with_reducible refine (unhide H2).mono ?_);rintro e w2 ⟨rfl,rfl⟩)
   all_goals exact bodyPost_ret (v:=.int .i64 (-1)) (by simp [results,Tryz.results80,go_sem]) rfl ⟨rfl,rfl⟩
 · have HC:Hid (Mt.cmpL a.data.toList b.data.toList=0):=hid_mk (Sl.cmpL_zero.2 h)
   rw [HC.out]
   have hn:¬ b.data.toList<a.data.toList:=fun g=>by rw [h] at g;exact List.lt_irrefl _ g
   have hm:¬ a.data.toList<b.data.toList:=fun g=>by rw [h] at g;exact List.lt_irrefl _ g
   rw [decide_eq_false hm] at l1
   rw [decide_eq_false hn] at l2
   rw [decide_eq_true h] at l3
   clear h hn hm
   go_enter Tryz.func80,Tryz.ntmps80
   go_wp2_with (go_at_call 116;(first | with_reducible refine (unhide H1).mono ?_ | with_reducible refine (unhide H2).mono ?_);rintro e w2 ⟨rfl,rfl⟩)
   all_goals exact bodyPost_ret (v:=.int .i64 0) (by simp [results,Tryz.results80,go_sem]) rfl ⟨rfl,rfl⟩
 · have hm:¬ a.data.toList<b.data.toList:=fun g=>List.lt_irrefl _ (List.lt_trans h g)
   have he:¬ a.data.toList=b.data.toList:=fun e=>by rw [e] at h;exact List.lt_irrefl _ h
   have HC:Hid (Mt.cmpL a.data.toList b.data.toList=1):=hid_mk (by unfold Mt.cmpL;rw [if_neg (by rw [bytesLess_eq];simpa using hm),if_neg he])
   rw [HC.out]
   rw [decide_eq_false hm] at l1
   rw [decide_eq_true h] at l2
   rw [decide_eq_false he] at l3
   clear h hm he
   go_enter Tryz.func80,Tryz.ntmps80
   go_wp2_with (go_at_call 116;(first | with_reducible refine (unhide H1).mono ?_ | with_reducible refine (unhide H2).mono ?_);rintro e w2 ⟨rfl,rfl⟩)
   all_goals exact bodyPost_ret (v:=.int .i64 1) (by simp [results,Tryz.results80,go_sem]) rfl ⟨rfl,rfl⟩
theorem cmpi_any (a b:Int) (w:World):Calls Tryz.prog 81 #[.int .i64 a,.int .i64 b] w (Ret (.int .i64 (Mt.cmpI a b)) w):=by
 have H1:=hide (nan_i a w)
 have H2:=hide (nan_i b w)
 by_cases h1:a<b
 · have HC:Hid (Mt.cmpI a b=-1):=hid_mk (by unfold Mt.cmpI;rw [if_pos h1])
   rw [HC.out]
   go_enter Tryz.func81,Tryz.ntmps81
   go_wp2_with (go_at_call 117;(first | with_reducible refine (unhide H1).mono ?_ | with_reducible refine (unhide H2).mono ?_);rintro e w2 ⟨rfl,rfl⟩)
   all_goals exact bodyPost_ret (v:=.int .i64 (-1)) (by simp [results,Tryz.results81,go_sem]) rfl ⟨rfl,rfl⟩
 · by_cases h2:b<a
   · have HC:Hid (Mt.cmpI a b=1):=hid_mk (by unfold Mt.cmpI;rw [if_neg h1,if_neg (by omega)])
     rw [HC.out]
     go_enter Tryz.func81,Tryz.ntmps81
     go_wp2_with (go_at_call 117;(first | with_reducible refine (unhide H1).mono ?_ | with_reducible refine (unhide H2).mono ?_);rintro e w2 ⟨rfl,rfl⟩)
     all_goals exact bodyPost_ret (v:=.int .i64 1) (by simp [results,Tryz.results81,go_sem]) rfl ⟨rfl,rfl⟩
   · have HC:Hid (Mt.cmpI a b=0):=hid_mk (by unfold Mt.cmpI;rw [if_neg h1,if_pos (by omega)])
     rw [HC.out]
     go_enter Tryz.func81,Tryz.ntmps81
     go_wp2_with (go_at_call 117;(first | with_reducible refine (unhide H1).mono ?_ | with_reducible refine (unhide H2).mono ?_);rintro e w2 ⟨rfl,rfl⟩)
     all_goals exact bodyPost_ret (v:=.int .i64 0) (by simp [results,Tryz.results81,go_sem]) rfl ⟨rfl,rfl⟩
def or3 (x y z:Int):Int:=if x≠0 then x else if y≠0 then y else z
theorem or_any (x y z:Int) (b:Nat) (w:World) (h0:w.cell? ⟨b,0,none⟩=some (.int .i64 x)) (h1:w.cell? ⟨b,1,none⟩=some (.int .i64 y)) (h2:w.cell? ⟨b,2,none⟩=some (.int .i64 z)):
 Calls Tryz.prog 79 #[.slice (some ⟨b,0,none⟩) 3 3] w (Ret (.int .i64 (or3 x y z)) w):=by
 by_cases hx:x=0
 · subst hx
   by_cases hy:y=0
   · subst hy
     have HC:Hid (or3 0 0 z=z):=hid_mk rfl
     rw [HC.out]
     by_cases hz:z=0
     · subst hz
       go_enter Tryz.func79,Tryz.ntmps79
       go_wp2
       refine wp_loop_rounds 4 ?_
       rw [rounds_succ]
       go_wp2
       rw [rounds_succ]
       go_wp2
       rw [rounds_succ]
       go_wp2
       rw [rounds_succ]
       go_wp2
       all_goals exact bodyPost_ret (v:=.int .i64 0) (by simp [results,Tryz.results79,go_sem]) rfl ⟨rfl,rfl⟩
     · have hz':(z==(0:Int))=false:=by simpa using hz
       clear hz
       go_enter Tryz.func79,Tryz.ntmps79
       go_wp2
       refine wp_loop_rounds 3 ?_
       rw [rounds_succ]
       go_wp2
       rw [rounds_succ]
       go_wp2
       rw [rounds_succ]
       go_wp2
       all_goals exact bodyPost_ret (v:=.int .i64 z) (by simp [results,Tryz.results79,go_sem]) rfl ⟨rfl,rfl⟩
   · have HC:Hid (or3 0 y z=y):=hid_mk (by unfold or3;rw [if_neg (by simp),if_pos hy])
     rw [HC.out]
     have hy':(y==(0:Int))=false:=by simpa using hy
     clear hy
     go_enter Tryz.func79,Tryz.ntmps79
     go_wp2
     refine wp_loop_rounds 2 ?_
     rw [rounds_succ]
     go_wp2
     rw [rounds_succ]
     go_wp2
     all_goals exact bodyPost_ret (v:=.int .i64 y) (by simp [results,Tryz.results79,go_sem]) rfl ⟨rfl,rfl⟩
 · have HC:Hid (or3 x y z=x):=hid_mk (by unfold or3;rw [if_pos hx])
   rw [HC.out]
   have hx':(x==(0:Int))=false:=by simpa using hx
   clear hx
   go_enter Tryz.func79,Tryz.ntmps79
   go_wp2
   refine wp_loop_rounds 1 ?_
   simp only [rounds_succ]
   go_wp2
   all_goals exact bodyPost_ret (v:=.int .i64 x) (by simp [results,Tryz.results79,go_sem]) rfl ⟨rfl,rfl⟩
theorem cmp_or (x y:Mt.M):Mt.cmp x y=or3 (Mt.cmpL x.name.data.toList y.name.data.toList) (Mt.cmpI x.op y.op) (Mt.cmpL x.val.data.toList y.val.data.toList):=rfl
def encM (x:Gn.GMatcher):List Value:=[.string x.Name,.int .i64 x.Op,.string x.Value]
theorem mixed_:Tryz.prog.follows .mixedOrders=true:=by kernel_rfl
theorem compare_any (x y:Gn.GMatcher) (w:World):Calls Tryz.prog 46 #[.agg #[.string x.Name,.int .i64 x.Op,.string x.Value],.agg #[.string y.Name,.int .i64 y.Op,.string y.Value]] w fun e w'=>
 e=.returned (.int .i64 (Mt.cmp ⟨x.Name,x.Op,x.Value⟩ ⟨y.Name,y.Op,y.Value⟩))∧∃q os',w'=grow (w.drewN q) os':=by
 have H1:∀W,Calls Tryz.prog 80 #[.string x.Name,.string y.Name] W fun e w''=>e=.returned (.int .i64 (Mt.cmpL x.Name.data.toList y.Name.data.toList))∧w''=W:=fun W=>(cmps_any _ _ W).mono fun _ _ h=>⟨h.1,h.2.symm⟩
 have H2:∀W,Calls Tryz.prog 81 #[.int .i64 x.Op,.int .i64 y.Op] W fun e w''=>e=.returned (.int .i64 (Mt.cmpI x.Op y.Op))∧w''=W:=fun W=>(cmpi_any _ _ W).mono fun _ _ h=>⟨h.1,h.2.symm⟩
 have H3:∀W,Calls Tryz.prog 80 #[.string x.Value,.string y.Value] W fun e w''=>e=.returned (.int .i64 (Mt.cmpL x.Value.data.toList y.Value.data.toList))∧w''=W:=fun W=>(cmps_any _ _ W).mono fun _ _ h=>⟨h.1,h.2.symm⟩
 rw [cmp_or]
 dsimp only
 generalize Mt.cmpL x.Name.data.toList y.Name.data.toList=c1 at *
 generalize Mt.cmpI x.Op y.Op=c2 at *
 generalize Mt.cmpL x.Value.data.toList y.Value.data.toList=c3 at *
 have H4:∀W b,W.cell? ⟨b,0,none⟩=some (.int .i64 c1)→W.cell? ⟨b,1,none⟩=some (.int .i64 c2)→W.cell? ⟨b,2,none⟩=some (.int .i64 c3)→Calls Tryz.prog 79 #[.slice (some ⟨b,0,none⟩) 3 3] W (Ret (.int .i64 (or3 c1 c2 c3)) W):=fun W b h0 h1 h2=>or_any _ _ _ b W h0 h1 h2
 generalize or3 c1 c2 c3=r at *
 go_enter Tryz.func46,Tryz.ntmps46
 go_wp2
 obtain ⟨V,hV⟩:∃V,V=(w.alloc (.cells #[.string x.Name,.int .i64 x.Op,.string x.Value] 46)).alloc (.cells #[.string y.Name,.int .i64 y.Op,.string y.Value] 46):=⟨_,rfl⟩
 rw [←hV]
 refine wp_region_still_tail 15 mixed_ (by kernel_rfl) ?_
 have hd:({V with drawn:=V.drawn+1}:World)=V.drew:=rfl
 generalize ({V with drawn:=V.drawn+1}:World)=D at hd ⊢
 have a0:D.cell? ⟨w.heap.size,0,none⟩=some (.string x.Name):=by rw [hd,hV];simp
 have a1:D.cell? ⟨w.heap.size,1,none⟩=some (.int .i64 x.Op):=by rw [hd,hV];simp
 have a2:D.cell? ⟨w.heap.size,2,none⟩=some (.string x.Value):=by rw [hd,hV];simp
 have b0:D.cell? ⟨w.heap.size+1,0,none⟩=some (.string y.Name):=by rw [hd,hV];simp
 have b1:D.cell? ⟨w.heap.size+1,1,none⟩=some (.int .i64 y.Op):=by rw [hd,hV];simp
 have b2:D.cell? ⟨w.heap.size+1,2,none⟩=some (.string y.Value):=by rw [hd,hV];simp
 have hG:∀o,∃q os',D.alloc o=grow (w.drewN q) os':=fun o=>⟨1,#[.cells #[.string x.Name,.int .i64 x.Op,.string x.Value] 46,.cells #[.string y.Name,.int .i64 y.Op,.string y.Value] 46,o],by
  rw [hd,hV];unfold World.alloc grow World.drew World.drewN;simp;apply Array.ext';simp⟩
 clear hd hV
 simp only [List.take_succ_cons,List.take_zero,List.drop_succ_cons,List.drop_zero]
 repeat still_step
 still_call (H1 _)
 repeat still_step
 still_call (H2 _)
 repeat still_step
 still_call (H3 _)
 refine wpStill_nil ?_
 have H5:=fun o=>H4 (D.alloc (.cells #[.int .i64 c1,.int .i64 c2,.int .i64 c3] o)) D.heap.size (by simp) (by simp) (by simp)
 clear H1 H2 H3 H4
 go_wp2_with fail
 refine (H5 _).mono ?_
 rintro e w2 ⟨rfl,rfl⟩
 go_wp2
 exact bodyPost_ret (v:=.int .i64 r) (by simp [results,Tryz.results46,go_sem]) rfl ⟨rfl,hG _⟩
end Sr
end Go.Proofs.YtpplemjjeefpdaaGreatDoor
namespace Go.Proofs.YtpplemjjeefpdaaGreatDoor
open Go Go.RowKit
open Ab
namespace Sh
theorem sort_w (l:List ByteArray) (hl:l.length≤1000000000) (ty:TypeId):MethL Tryz.prog 49 ty 1 (rw _ cS l) [] (.tup []) (rw _ cS (isort l)):=
 sort_methI (Tryz.call49) (fun blk cap ss w hH hb hn=>Tryz.slices_Sort_string blk 0 cap ss w hH hb hn) l hl ty
end Sh
end Go.Proofs.YtpplemjjeefpdaaGreatDoor
namespace Go.Proofs
open Go.Shelf
def Tryz.sortM_ren:Go.Shelf.Ren:=⟨fun | 6=>45 | 15=>78 | 14=>77 | 28=>114 | 29=>115 | 20=>106 | 21=>107 | 22=>108 | 23=>109 | 24=>110 | 25=>111 | 26=>112 | 27=>113 | 46=>142 | 47=>143 | 48=>144 | 49=>145 | 50=>146 | 57=>160 | n=>n,fun | 22=>22 | 24=>46 | 25=>69 | 3=>3 | 39=>104 | 0=>0 | 53=>144 | 55=>76 | 4=>4 | 46=>137 | 45=>136 | 50=>141 | 5=>5 | 9=>9 | 66=>168 | 70=>172 | 76=>185 | 77=>186 | n=>n,fun | n=>n⟩
theorem Tryz.sortM:Go.Proofs.SlLaysF0.n6 Tryz.prog Tryz.sortM_ren:={
 mixed:=by kernel_rfl
 f6:=⟨Tryz.f45.name,by decide,Tryz.func45.trans (congrArg some (by kernel_rfl))⟩
 f14:=⟨Tryz.f77.name,by decide,Tryz.func77.trans (congrArg some (by kernel_rfl))⟩
 f15:=Tryz.func78.trans (congrArg some (by kernel_rfl))
 f20:=⟨Tryz.f106.name,by decide,Tryz.func106.trans (congrArg some (by kernel_rfl))⟩
 f21:=⟨Tryz.f107.name,by decide,Tryz.func107.trans (congrArg some (by kernel_rfl))⟩
 f22:=⟨Tryz.f108.name,by decide,Tryz.func108.trans (congrArg some (by kernel_rfl))⟩
 f23:=⟨Tryz.f109.name,by decide,Tryz.func109.trans (congrArg some (by kernel_rfl))⟩
 f24:=⟨Tryz.f110.name,by decide,Tryz.func110.trans (congrArg some (by kernel_rfl))⟩
 f25:=⟨Tryz.f111.name,by decide,Tryz.func111.trans (congrArg some (by kernel_rfl))⟩
 f26:=⟨Tryz.f112.name,by decide,Tryz.func112.trans (congrArg some (by kernel_rfl))⟩
 f27:=⟨Tryz.f113.name,by decide,Tryz.func113.trans (congrArg some (by kernel_rfl))⟩
 f28:=Tryz.func114.trans (congrArg some (by kernel_rfl))
 f29:=Tryz.func115.trans (congrArg some (by kernel_rfl))
 f46:=⟨Tryz.f142.name,by decide,Tryz.func142.trans (congrArg some (by kernel_rfl))⟩
 f47:=Tryz.func143.trans (congrArg some (by kernel_rfl))
 f48:=Tryz.func144.trans (congrArg some (by kernel_rfl))
 f49:=⟨Tryz.f145.name,by decide,Tryz.func145.trans (congrArg some (by kernel_rfl))⟩
 f50:=⟨Tryz.f146.name,by decide,Tryz.func146.trans (congrArg some (by kernel_rfl))⟩
 f57:=⟨Tryz.f160.name,by decide,Tryz.func160.trans (congrArg some (by kernel_rfl))⟩
 t0:=Tryz.underlying0
 a0:=Tryz.isAgg0
 z0:=Tryz.sizeOf0
 v0:=Tryz.zeroValue0
 t3:=Tryz.underlying3
 a3:=Tryz.isAgg3
 z3:=Tryz.sizeOf3
 v3:=Tryz.zeroValue3
 t4:=Tryz.underlying4
 a4:=Tryz.isAgg4
 z4:=Tryz.sizeOf4
 v4:=Tryz.zeroValue4
 t5:=Tryz.underlying5
 a5:=Tryz.isAgg5
 z5:=Tryz.sizeOf5
 v5:=Tryz.zeroValue5
 t9:=Tryz.underlying9
 a9:=Tryz.isAgg9
 z9:=Tryz.sizeOf9
 v9:=Tryz.zeroValue9
 t22:=Tryz.underlying22
 a22:=Tryz.isAgg22
 z22:=Tryz.sizeOf22
 v22:=Tryz.zeroValue22
 t25:=Tryz.underlying69
 a25:=Tryz.isAgg69
 z25:=Tryz.sizeOf69
 v25:=Tryz.zeroValue69
 t39:=Tryz.underlying104
 a39:=Tryz.isAgg104
 z39:=Tryz.sizeOf104
 v39:=Tryz.zeroValue104
 t45:=Tryz.underlying136
 a45:=Tryz.isAgg136
 z45:=Tryz.sizeOf136
 v45:=Tryz.zeroValue136
 t46:=Tryz.underlying137
 a46:=Tryz.isAgg137
 z46:=Tryz.sizeOf137
 v46:=Tryz.zeroValue137
 t50:=Tryz.underlying141
 a50:=Tryz.isAgg141
 z50:=Tryz.sizeOf141
 v50:=Tryz.zeroValue141
 t53:=Tryz.underlying144
 a53:=Tryz.isAgg144
 z53:=Tryz.sizeOf144
 v53:=Tryz.zeroValue144
 t55:=Tryz.underlying76
 a55:=Tryz.isAgg76
 z55:=Tryz.sizeOf76
 v55:=Tryz.zeroValue76
 t66:=Tryz.underlying168
 a66:=Tryz.isAgg168
 z66:=Tryz.sizeOf168
 v66:=Tryz.zeroValue168
 t70:=Tryz.underlying172
 a70:=Tryz.isAgg172
 z70:=Tryz.sizeOf172
 v70:=Tryz.zeroValue172
 t76:=Tryz.underlying185
 a76:=Tryz.isAgg185
 z76:=Tryz.sizeOf185
 v76:=Tryz.zeroValue185
 t77:=Tryz.underlying186
 a77:=Tryz.isAgg186
 z77:=Tryz.sizeOf186
 v77:=Tryz.zeroValue186}
end Go.Proofs
