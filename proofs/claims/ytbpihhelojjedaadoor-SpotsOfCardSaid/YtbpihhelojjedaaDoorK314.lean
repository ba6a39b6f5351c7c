/- Texts that the proof leans on. -/
import Derived.Test.YtbpihhelojjedaaDoorK313
import Derived.Test.YtbpihhelojjedaaDoorProg
set_option linter.unusedVariables false
set_option linter.unusedSimpArgs false
set_option maxRecDepth 100000
set_option maxHeartbeats 4000000
namespace Go.Proofs.YtbpihhelojjedaaDoor
open Go Go.RowKit
open Ab
namespace Sh
structure Wd where
 ar:BinOp→IntKind→Int→Int→Int
 cmp:BinOp→Int→Int→Bool
 conj:List Bool→Bool
 conv:IntKind→Int→Int
 slen:ByteArray→Int
 scmp:BinOp→ByteArray→ByteArray→Bool
 cat:ByteArray→ByteArray→ByteArray
 sat:ByteArray→Int→Int
 ssub:ByteArray→Int→Int→ByteArray
 llen:Ab.Rows→Int
 lsub:Ab.Rows→Int→Int→Ab.Rows
 lset:Ab.Rows→Int→List Ab.T→Ab.Rows
 lapp:Ab.Rows→Ab.Rows→Ab.Rows
 lzero:Int→List Ab.T→Ab.Rows
 imin:Int→Int→Int
 imax:Int→Int→Int
 brows:ByteArray→Ab.Rows
 bstr:Ab.Rows→ByteArray
 lcopy:Ab.Rows→Ab.Rows→Ab.Rows
 mput:Ab.Rows→Key→Ab.T→Ab.Rows
 lcpw:Ab.Rows→Int→Int→Ab.Rows
def _root_.Go.Proofs.YtbpihhelojjedaaDoor.Ab.Env.wd (E:Env):Wd:=⟨E.ar,E.cmp,E.conj,E.conv,E.slen,E.scmp,E.cat,E.sat,E.ssub,E.llen,E.lsub,E.lset,E.lapp,E.lzero,E.imin,E.imax,E.brows,E.bstr,E.lcopy,E.mput,E.lcpw⟩
def mkE (W:Wd) (E:Env):Env:={E with ar:=W.ar,cmp:=W.cmp,conj:=W.conj,conv:=W.conv,slen:=W.slen,scmp:=W.scmp,cat:=W.cat,sat:=W.sat,ssub:=W.ssub,llen:=W.llen,lsub:=W.lsub,lset:=W.lset,lapp:=W.lapp,lzero:=W.lzero,imin:=W.imin,imax:=W.imax,brows:=W.brows,bstr:=W.bstr,lcopy:=W.lcopy,mput:=W.mput,lcpw:=W.lcpw}
def ar:BinOp→IntKind→Int→Int→Int:=arF
def cm:BinOp→Int→Int→Bool:=cmpF
def conj:List Bool→Bool:=fun l=>l.all id
def cv:IntKind→Int→Int:=fun k n=>k.wrap n
def sl:ByteArray→Int:=fun s=>s.size
def sc:BinOp→ByteArray→ByteArray→Bool:=scmpF
def ct:ByteArray→ByteArray→ByteArray:=fun x y=>x++y
def sa:ByteArray→Int→Int:=fun s n=>(s.data.getD n.toNat 0).toNat
def ss:ByteArray→Int→Int→ByteArray:=fun s l h=>s.extract l.toNat h.toNat
def ll:Ab.Rows→Int:=fun rows=>rows.length
def mi:Int→Int→Int:=fun a b=>if b<a then b else a
def mx:Int→Int→Int:=fun a b=>if b>a then b else a
abbrev RF:=(α:Type)→(α→List Ab.T)→List α→Ab.Rows
def rw (α:Type) (c:α→List Ab.T) (l:List α):Ab.Rows:=l.map c
def cI (k:IntKind) (n:Int):List Ab.T:=[.flat (.int k n)]
def cB (b:Bool):List Ab.T:=[.flat (.bool b)]
def bytes (s:ByteArray):List Int:=s.data.toList.map fun b=>(b.toNat:Int)
def sinB (s:ByteArray) (i:Int):Bool:=decide (0≤i)&&decide (i<s.size)
def at_ {α:Type} (l:List α) (i:Int):Option α:=if 0≤i then l[i.toNat]? else none
def app {α:Type} (c:α→List Ab.T) (l m:List α):Option (List α):=if l.length+m.length≤1000000000 then some (l++m) else none
def put {α β:Type} (c:α→List Ab.T) (l:List α) (i:Int) (y:α) (X:List α→Option β):Option β:=X (l.set i.toNat y)
def zro {α:Type} (c:α→List Ab.T) (z:α) (n m:Int):Option (List α):=if n=m∧0≤n∧n≤1000000000 then some (List.replicate n.toNat z) else none
def sub {α:Type} (c:α→List Ab.T) (l:List α) (i j:Int):Option (List α):=if 0≤i∧i≤j∧j≤l.length then some ((l.take j.toNat).drop i.toNat) else none
def nx {β:Type} (s:ByteArray) (p:Int) (y:Int→Int→Option β) (n:Option β):Option β:=if p.toNat<s.size then y (p+(Utf8.decode s p.toNat).2) (Utf8.decode s p.toNat).1 else n
def nilq {α β:Type} (l:List α) (X Y:Option β):Option β:=match l with | []=>X | _::_=>Y
def winB {α:Type} (l:List α) (i:Int):Bool:= !l.isEmpty&&(decide (0≤i)&&decide (i≤l.length))
def wrowB {α:Type} (l:List α) (i j:Int):Bool:=decide (0≤i)&&(decide (0≤j)&&decide (i+j<l.length))
def cut {α:Type} (c:α→List Ab.T) (l:List α) (i:Int):Option (List α):=if winB l i=true then some (l.take i.toNat) else none
def clr {α:Type} (c:α→List Ab.T) (z:α) (l:List α) (i:Int):Option (List α):=if winB l i=true then some (l.take i.toNat++List.replicate (ar .sub .i64 l.length i).toNat z) else none
theorem conv_some {α β:Type} {o:Option α} {X:α→Option β} {v:β} (h:o.bind X=some v):∃a,o=some a∧X a=some v:=by
 cases o with
 | none=>cases h
 | some a=>exact ⟨a,rfl,h⟩
theorem cond_true {β:Type} {b:Bool} {X:Option β} {v:β} (h:cond b X none=some v):b=true∧X=some v:=by
 cases b with
 | false=>cases h
 | true=>exact ⟨rfl,h⟩
def hasPick:List Oper→Bool
 | []=>false
 | o::r=>match o.op with
   | .pick _ _ _=>true
   | _=>hasPick r
def exitsTo (id:Nat):Code→Bool
 | .seq a b=>exitsTo id a||exitsTo id b
 | .cond _ a b=>exitsTo id a||exitsTo id b
 | .block _ c=>exitsTo id c
 | .loop c=>exitsTo id c
 | .exit j=>j==id
 | _=>false
def falls:Code→Bool
 | .seq a b=>falls a&&falls b
 | .cond _ a b=>falls a||falls b
 | .block id c=>falls c||exitsTo id c
 | .loop _=>false
 | .exit _=>false
 | .goto _=>false
 | .ret=>false
 | .refuse _=>false
 | _=>true
def jwp (E:Env) (L:TypeId→Option Lt):Code→St→(Ex→St→Prop)→Prop
 | .skip,s,Q=>Q .normal s
 | .label _,s,Q=>Q .normal s
 | .region id ops false,s,Q=>
   match hasPick ops.toList with
   | true=>E.other (.region id ops false) s Q
   | false=>pops E L ops.toList [] ops.toList s (Q .normal)
 | .region _ ops true,s,Q=>E.draw ops.toList s (Q .normal)
 | .seq a b,s,Q=>jwp E L a s fun e s'=>match e with
   | .normal=>jwp E L b s' Q
   | e=>Q e s'
 | .cond c a b,s,Q=>
   match falls a&&falls b with
   | true=>E.other (.cond c a b) s Q
   | false=>
     match s.ev c with
     | .t (.flat (.bool x))=>E.ifb x (fun _=>jwp E L a s Q) (fun _=>jwp E L b s Q)
     | _=>False
 | .block id c,s,Q=>jwp E L c s fun e s'=>match e with
   | .exit j=>if j=id then Q .normal s' else Q (.exit j) s'
   | e=>Q e s'
 | .exit id,s,Q=>Q (.exit id) s
 | .goto l,s,Q=>Q (.goto l) s
 | .ret,s,Q=>Q .ret s
 | c,s,Q=>E.other c s Q
section
variable {P:Program} {A:Run} {L:TypeId→Option Lt}
theorem cond_AW {c:Operand} {x y:Code} {s:St} {Q:Ex→St→Prop} (h:match s.ev c with
 | .t (.flat (.bool b))=>(b=true→AW P A x s Q)∧(b=false→AW P A y s Q)
 | _=>False):AW P A (.cond c x y) s Q:=by
 intro cx a w R
 split at h
 case h_2=>exact h.elim
 rename_i b hb
 have hc:=inv_bool (by have:=eyes_of R.tm c;rw [hb] at this;exact this)
 cases b with
 | true=>exact wp_cond hc (h.1 rfl cx a w R)
 | false=>exact wp_cond hc (h.2 rfl cx a w R)
theorem jwp_sound (hL:LayOk P L):∀(c:Code) (s:St) (Q:Ex→St→Prop),jwp (dom P A) L c s Q→AW P A c s Q:=by
 intro c
 induction c with
 | region id ops d=>
   intro s Q h
   cases d with
   | false=>
     simp only [jwp] at h
     split at h
     · exact h
     · exact region_AW hL h
   | true=>exact pwp_sound hL (.region id ops true) s Q h
 | seq x y ihx ihy=>
   intro s Q h cx a w R
   refine wp_seq (wp_mono (ihx _ _ h cx a w R) fun e a w h=>?_)
   rcases h with ⟨e',s',cx',h1,h2,h3⟩ | ⟨ch,rfl,h⟩
   · cases e<;>cases e'<;>first | exact h1.elim | exact ihy _ _ h2 cx' a w h3 | exact .inl ⟨_,s',cx',h1,h2,h3⟩
   · exact .inr ⟨ch,rfl,h⟩
 | cond c x y ihx ihy=>
   intro s Q h
   simp only [jwp] at h
   split at h
   · exact h
   · refine cond_AW ?_
     split at h
     case h_2=>exact h.elim
     exact ⟨fun e=>ihx _ _ (h.1 e),fun e=>ihy _ _ (h.2 e)⟩
 | block id c ih=>
   intro s Q h cx a w R
   refine wp_block (wp_mono (ih _ _ h cx a w R) fun e a w h=>?_)
   rcases h with ⟨e',s',cx',h1,h2,h3⟩ | ⟨ch,rfl,h⟩
   case inr=>exact .inr ⟨ch,rfl,h⟩
   cases e with
   | exit i=>
     cases e' with
     | exit j=>
       have e1:i=j:=h1
       subst e1
       simp only [Exit.inBlock]
       simp only at h2
       split at h2
       · rename_i e2
         rw [if_pos e2]
         exact .inl ⟨.normal,s',cx',trivial,h2,h3⟩
       · rename_i e2
         rw [if_neg e2]
         exact .inl ⟨.exit i,s',cx',rfl,h2,h3⟩
     | _=>exact h1.elim
   | _=>cases e'<;>first | exact h1.elim | exact .inl ⟨_,s',cx',h1,h2,h3⟩
 | loop c ih=>intro s Q h;exact h
 | rangeFunc f ps x y=>intro s Q h;exact h
 | scope c ih=>intro s Q h;exact h
 | refuse why=>intro s Q h;exact h
 | skip=>exact fun s Q h=>pwp_sound hL .skip s Q h
 | label l=>exact fun s Q h=>pwp_sound hL (.label l) s Q h
 | exit id=>exact fun s Q h=>pwp_sound hL (.exit id) s Q h
 | goto l=>exact fun s Q h=>pwp_sound hL (.goto l) s Q h
 | ret=>exact fun s Q h=>pwp_sound hL .ret s Q h
theorem AW.join {c:Code} {s t:St} {Q:Ex→St→Prop} (h:AW P A c s fun e s'=>match e with
 | .normal=>s'.le t
 | e=>Q e s') (ht:Q .normal t):AW P A c s Q:=fun cx a w R=>by
 refine wp_mono (h cx a w R) fun e a w h=>?_
 rcases h with ⟨e',s',cx',h1,h2,h3⟩ | h
 case inr=>exact .inr h
 cases e' with
 | normal=>
   obtain ⟨cx2,R2⟩:=h3.loose h2
   exact .inl ⟨.normal,t,cx2,h1,ht,R2⟩
 | _=>exact .inl ⟨_,s',cx',h1,h2,h3⟩
end
def joinOf (c:Code) (s:St) (n:Nat) (slots:List (Tmp × V)) (rows:List (Nat × Row)):St:=
 ⟨setAll slots (forget (writes c) s.tmps),rowsAll rows (s.heap.take n),s.base⟩
section
variable {P:Program} {A:Run} {W:Wd} {E:Env} {L:TypeId→Option Lt}
theorem wE (hE:dom P A=mkE W E):W=(dom P A).wd:=by rw [hE];rfl
variable (hE:dom P A=mkE W E)
include hE
theorem q_ar:ar=W.ar:=by rw [wE hE];rfl
theorem q_cm:cm=W.cmp:=by rw [wE hE];rfl
theorem q_conj:conj=W.conj:=by rw [wE hE];rfl
theorem q_sl:sl=W.slen:=by rw [wE hE];rfl
theorem q_sc:sc=W.scmp:=by rw [wE hE];rfl
theorem q_sa:sa=W.sat:=by rw [wE hE];rfl
theorem q_ll:ll=W.llen:=by rw [wE hE];rfl
theorem q_mi:mi=W.imin:=by rw [wE hE];rfl
theorem q_mx:mx=W.imax:=by rw [wE hE];rfl
section
variable {β:Type} {v:β} {c:Prop} {s t:ByteArray} {i j:Int}
theorem L_t {p q:Unit→Prop} (k:p ()):E.ifb true p q:=r_true hE rfl k
theorem L_f {p q:Unit→Prop} (k:q ()):E.ifb false p q:=r_false hE rfl k
theorem L_if {b:Bool} {X Y:Option β} {p q:Unit→Prop} (h:cond b X Y=some v) (k1:X=some v→p ()) (k2:Y=some v→q ()):E.ifb b p q:=by
 cases b with
 | true=>exact r_true hE rfl (k1 h)
 | false=>exact r_false hE rfl (k2 h)
theorem L_sin {X:Option β} (h:cond (sinB s i) X none=some v) (k:X=some v→c):E.sin s i∧c:=by
 obtain ⟨h1,h2⟩:=cond_true h
 simp only [sinB,Bool.and_eq_true,decide_eq_true_eq] at h1
 exact r_sin hE h1.1 h1.2 (k h2)
end
section
variable {R:(α:Type)→(α→List Ab.T)→List α→Ab.Rows} (hR:R=rw)
variable {β α:Type} {v:β} {c:Prop} {e:α→List Ab.T} {l m:List α} {es bytes:Nat}
include hR
theorem L_row {i:Int} {X:α→Option β} {k:List Ab.T→Prop} (h:(at_ l i).bind X=some v) (kk:∀x,X x=some v→k (e x)):E.row (R α e l) i k:=by
 obtain ⟨x,h1,h2⟩:=conv_some h
 subst hR
 unfold at_ at h1
 split at h1
 case isFalse=>cases h1
 exact r_row hE (by assumption) (show (List.map e l)[i.toNat]?=_ by rw [List.getElem?_map,h1];rfl) (kk x h2)
theorem L_app {id:Nat} {X:List α→Option β} (h:(app e l m).bind X=some v) (hf:E.free id) (hc:∀x,(e x).length=es) (hb:bytes≤1000) (k:∀l',W.lapp (R α e l) (R α e m)=R α e l'→X l'=some v→c):E.free id∧E.room (R α e l) (R α e m) es bytes∧c:=by
 obtain ⟨x,h1,h2⟩:=conv_some h
 subst hR
 unfold app at h1
 split at h1
 case isFalse=>cases h1
 cases h1
 refine ⟨hf,r_room hE (fun row hr=>?_) (by simpa [rw] using ‹l.length+m.length≤1000000000›) hb (k _ ?_ h2)⟩
 · obtain ⟨y,-,rfl⟩:=List.mem_map.1 hr;exact hc y
 · rw [wE hE];exact List.map_append.symm
theorem L_appL {id:Nat} {new:Ab.Rows} {X:List α→Option β} (h:(app e l m).bind X=some v) (hn:new=List.map e m) (hf:E.free id) (hc:∀x,(e x).length=es) (hb:bytes≤1000) (k:∀l',W.lapp (R α e l) new=R α e l'→X l'=some v→c):E.free id∧E.room (R α e l) new es bytes∧c:=by
 subst hn
 have:=@L_app P A W E hE R hR β α v c e l m es bytes id X h hf hc hb
 subst hR
 exact this k
omit hE in
theorem L_lit {new:Ab.Rows} {X:List α→Option β} {m:List α} (h:(some m).bind X=some v) (hn:new=List.map e m) (k:∀l',new=R α e l'→X l'=some v→c):c:=by
 subst hn hR;exact k m rfl h
theorem L_put {i:Int} {y:α} {X:List α→Option β} (h:put e l i y X=some v) (k:∀l',W.lset (R α e l) i (e y)=R α e l'→X l'=some v→c):c:=by
 subst hR
 refine k _ ?_ h
 rw [wE hE]
 exact List.map_set.symm
theorem L_zro {z:α} {n k':Int} {X:List α→Option β} (h:(zro e z n k').bind X=some v) (hb:bytes≤1000) (k:∀l',W.lzero n (e z)=R α e l'→X l'=some v→c):E.roomz n k' bytes∧c:=by
 obtain ⟨x,h1,h2⟩:=conv_some h
 subst hR
 unfold zro at h1
 split at h1
 case isFalse=>cases h1
 rename_i g
 cases h1
 refine r_roomz hE g.1 g.2.1 g.2.2 hb (k _ ?_ h2)
 rw [wE hE]
 exact List.map_replicate.symm
omit hE in
theorem win_of {i:Int} (h:winB l i=true) (hc:∀x,(e x).length=es):rw α e l≠[]∧0≤i∧i≤(rw α e l).length∧∀row∈rw α e l,row.length=es:=by
 have _h:=hR
 simp only [winB,Bool.and_eq_true,decide_eq_true_eq,Bool.not_eq_true',List.isEmpty_eq_false_iff] at h
 refine ⟨by simpa [rw] using h.1,h.2.1,by simpa [rw] using h.2.2,fun row hr=>?_⟩
 obtain ⟨y,-,rfl⟩:=List.mem_map.1 hr;exact hc y
theorem L_wsin {i:Int} {X:Option β} (h:cond (winB l i) X none=some v) (hc:∀x,(e x).length=es) (k:X=some v→c):E.wsin (R α e l) i es∧c:=by
 obtain ⟨h1,h2⟩:=cond_true h
 subst hR
 refine ⟨?_,k h2⟩
 show (mkE W E).wsin _ _ _
 rw [←hE];exact win_of rfl h1 hc
theorem L_wrow {i j:Int} {X:Option β} (h:cond (wrowB l i j) X none=some v) (k:X=some v→c):E.wrow (R α e l) i j∧c:=by
 obtain ⟨h1,h2⟩:=cond_true h
 subst hR
 simp only [wrowB,Bool.and_eq_true,decide_eq_true_eq] at h1
 refine ⟨?_,k h2⟩
 show (mkE W E).wrow _ _ _
 rw [←hE];exact ⟨h1.1,h1.2.1,by simpa [rw] using h1.2.2⟩
theorem L_cut {i:Int} {id:Nat} {X:List α→Option β} (h:(cut e l i).bind X=some v) (hf:E.free id) (hc:∀x,(e x).length=es) (k:∀l',W.lsub (R α e l) 0 i=R α e l'→X l'=some v→c):E.free id∧E.wsin (R α e l) i es∧c:=by
 obtain ⟨x,h1,h2⟩:=conv_some h
 subst hR
 unfold cut at h1
 split at h1
 case isFalse=>cases h1
 rename_i g
 cases h1
 refine ⟨hf,?_,k _ ?_ h2⟩
 · show (mkE W E).wsin _ _ _
   rw [←hE];exact win_of rfl g hc
 · rw [wE hE];show ((List.map e l).take _).drop 0=List.map e _;rw [List.drop_zero,List.map_take]
theorem L_clr {z:α} {i:Int} {X:List α→Option β} (h:(clr e z l i).bind X=some v) (hc:∀x,(e x).length=es) (k:∀l',W.lapp (W.lsub (R α e l) 0 i) (W.lzero (W.ar .sub .i64 (W.llen (R α e l)) i) (e z))=R α e l'→X l'=some v→c):E.wsin (R α e l) i es∧c:=by
 obtain ⟨x,h1,h2⟩:=conv_some h
 subst hR
 unfold clr at h1
 split at h1
 case isFalse=>cases h1
 rename_i g
 cases h1
 refine ⟨?_,k _ ?_ h2⟩
 · show (mkE W E).wsin _ _ _
   rw [←hE];exact win_of rfl g hc
 · rw [wE hE];show ((List.map e l).take _).drop 0++List.replicate (arF .sub .i64 (List.map e l).length i).toNat _=List.map e _
   rw [List.drop_zero,List.map_append,List.map_take,List.map_replicate,List.length_map];rfl
theorem L_nilq {X Y:Option β} {p:Bool→Prop} (h:nilq l X Y=some v) (hq:l=[]→X=Y) (k1:X=some v→p true) (k2:Y=some v→p false):E.nilq (R α e l) p:=by
 show (mkE W E).nilq _ _
 rw [←hE]
 subst hR
 cases l with
 | nil=>exact ⟨k2 ((hq rfl).symm.trans h),fun _=>k1 h⟩
 | cons a r=>exact ⟨k2 h,fun e=>by cases e⟩
omit hE in
theorem e_rnil (α:Type) (e:α→List Ab.T):R α e []=[]:=by subst hR;rfl
end
section
variable {β α:Type} {v:β} {f:FuncId} {args args' args'':List V} {s:St} {sh:RF→α→V} {g:Option α} {X:α→Option β} {K:V→St→Prop}
theorem L_call {R:RF} (hR:R=rw) (h:g.bind X=some v) (hF:∀r,g=some r→FunS P f args' (sh rw) r) (he:nrm.nrmL args=args') (hc:args.all V.closedB=true) (hK:∀r,X r=some v→K (sh R r) s):E.call f args s K:=by
 obtain ⟨r,h1,h2⟩:=conv_some h
 subst hR
 exact use_fun hE (v:=sh rw r) (hF r h1) he hc (hK r h2)
theorem L_pcall {R:RF} (hR:R=rw) {K:V→Prop} (h:g.bind X=some v) (hF:∀r,g=some r→FunS P f args' (sh rw) r) (he:nrm.nrmL args=args') (hc:args.all V.closedB=true) (hK:∀r,X r=some v→K (sh R r)):E.pcall f args K:=by
 obtain ⟨r,h1,h2⟩:=conv_some h
 subst hR
 exact use_pcall hE (v:=sh rw r) (hF r h1) he hc (hK r h2)
end
theorem L_listB {α β:Type} {v:β} {f:FuncId} {args args' args'':List V} {s:St} {K:V→St→Prop} {R:RF} (hR:R=rw) {e:α→List Ab.T} {ty es:Nat} {g:Option (List α)} {X:List α→Option β} (h:g.bind X=some v) (hF:∀r,g=some r→FunL P f args' ty es (rw α e r)) (hz:frzL s.heap args=some args'') (he:nrm.nrmL args''=args') (hb:∀x,∀t∈e x,∃u,t=.flat u) (hK:∀r,X r=some v→K (.lst s.heap.length) (s.push (some (.list ty es (R α e r))))):E.call f args s K:=by
 obtain ⟨r,h1,h2⟩:=conv_some h
 subst hR
 show (mkE W E).call _ _ _ _
 rw [←hE]
 refine call_listB ((hF r h1).args he) hz (fun i j t ht=>?_) (hK r h2)
 rw [show (rw α e r)[i]?=(r[i]?).map e from List.getElem?_map ..] at ht
 cases hi:r[i]? with
 | none=>rw [hi] at ht;cases ht
 | some x=>
   rw [hi] at ht
   exact hb x t (List.mem_of_getElem? (show (e x)[j]?=some t from ht))
theorem L_keep (hL:LayOk P L) {f:FuncId} {fn:Func} {c:Code} {args:List V} {s:St} {K:V→St→Prop} (hcall:Callable P f) (hf:P.funcs[f]?=some fn) (hb:fn.body=some c)
 (h:∀(A':Run) (E':Env) (Q:Ex→St→Prop),dom P A'=mkE W E'→(∀id,s.heap.length≤id→E'.free id)→(∀s' r,resV L fn.results.toList s'=some r→K r ⟨s.tmps,s'.heap,s.base⟩→Q .ret s'∧Q .normal s')→
  jwp (mkE W E') L c ⟨args++List.replicate (fn.ntmps-args.length) .junk,s.heap,s.heap.length⟩ Q):E.call f args s K:=by
 show (mkE W E).call _ _ _ _
 rw [←hE]
 refine call_keep hL hcall hf hb fun A' Q hfr hQ=>?_
 have g:dom P A'=mkE W (dom P A'):=by rw [wE hE];rfl
 refine jwp_sound hL _ _ _ ?_
 rw [g]
 exact h A' _ Q g hfr hQ
theorem L_whole (hL:LayOk P L) (hm:P.follows .mixedOrders=true) {all:List Oper} {s:St} {K:St→Prop} (hB:Region.lexB .any all.toArray=true)
 (h:popsD (mkE W E) L all s.heap.length 0 all (s.wide all.length) K):E.draw all s K:=use_whole hE hL hm hB h
theorem L_tail (hL:LayOk P L) (hm:P.follows .mixedOrders=true) (n:Nat) {all:List Oper} {s:St} {K:St→Prop} (hB:Region.lexTailB .any all.toArray n=true)
 (h:popsD (mkE W E) L all s.heap.length 0 (all.take n) (s.wide all.length) fun s'=>pops (mkE W E) L all [] (all.drop n) s' K):E.draw all s K:=use_tail hE hL hm n hB h
theorem L_for (hL:LayOk P L) {c:Code} {s:St} {Q:Ex→St→Prop} {Γ:Type} (n:Nat) (slots:Γ→List (Tmp × V)) (rows:Γ→List (Nat × Row))
 (pre:Γ→Prop) (mu:Γ→Nat) (g0:Γ) (h0:pre g0) (hle:s.le (headOf c s n (slots g0) (rows g0)))
 (hstep:∀g,pre g→∀Q':Ex→St→Prop,(∀s' g' sw,pre g'→mu g'<mu g→frees E.free sw→(swAll sw s').le (headOf c s n (slots g') (rows g'))→Q' .normal s')→(∀s',Q .ret s'→Q' .ret s')→(∀i s',Q (.exit i) s'→Q' (.exit i) s')→
  jwp (mkE W E) L c (headOf c s n (slots g) (rows g)) Q'):E.other (.loop c) s Q:=by
 show (mkE W E).other _ _ _
 have hf0:∀id,A.pin id=none→E.free id:=fun id h=>by
  have e:(dom P A).free id:=h
  rw [hE] at e;exact e
 have hf1:∀l,frees E.free l→frees (fun i=>A.pin i=none) l:=fun l h=>by
  induction l with
  | nil=>trivial
  | cons p r ih=>
    obtain ⟨i,j⟩:=p
    have e:∀id,E.free id→A.pin id=none:=fun id h=>by
     have e:(mkE W E).free id:=h
     rw [←hE] at e;exact e
    exact ⟨e _ h.1,e _ h.2.1,ih h.2.2⟩
 have hf2:∀l,frees (fun i=>A.pin i=none) l→frees E.free l:=fun l h=>by
  induction l with
  | nil=>trivial
  | cons p r ih=>
    obtain ⟨i,j⟩:=p
    exact ⟨hf0 _ h.1,hf0 _ h.2.1,ih h.2.2⟩
 rw [←hE] at hstep ⊢
 exact AW_loopS hL (fun g=>headOf c s n (slots g) (rows g)) pre mu g0 h0 hle fun g hg Q' a b c'=>jwp_sound hL _ _ _ (hstep g hg Q' (fun s' g' sw h1 h2 h3 h4=>a s' g' sw h1 h2 (hf1 _ h3) h4) b c')
theorem L_rg (hL:LayOk P L) {id:Nat} {ops:Array Oper} {s:St} {Q:Ex→St→Prop} (h:pops (mkE W E) L ops.toList [] ops.toList s (Q .normal)):E.other (.region id ops false) s Q:=by
 show (mkE W E).other _ _ _
 rw [←hE] at h ⊢
 exact region_AW hL h
theorem L_rgJ (hL:LayOk P L) {β Γ:Type} {v:β} {G:Option Γ} {X:Γ→Option β} {id:Nat} {ops:Array Oper} {s:St} {Q:Ex→St→Prop} (h:G.bind X=some v) (n:Nat) (slots:Γ→List (Tmp × V)) (rows:Γ→List (Nat × Row))
 (h1:∀g,G=some g→pops (mkE W E) L ops.toList [] ops.toList s fun s'=>s'.le (joinOf (.region id ops false) s n (slots g) (rows g)))
 (h2:∀g,X g=some v→Q .normal (joinOf (.region id ops false) s n (slots g) (rows g))):E.other (.region id ops false) s Q:=by
 obtain ⟨g,g1,g2⟩:=conv_some h
 show (mkE W E).other _ _ _
 rw [←hE] at h1 ⊢
 exact AW.join (region_AW hL (Q:=fun e s'=>match e with
  | .normal=>s'.le (joinOf (.region id ops false) s n (slots g) (rows g))
  | e=>Q e s') (h1 g g1)) (h2 g g2)
theorem L_cd (hL:LayOk P L) {c:Operand} {a b:Code} {s:St} {Q:Ex→St→Prop} (h:match s.ev c with
 | .t (.flat (.bool x))=>E.ifb x (fun _=>jwp (mkE W E) L a s Q) (fun _=>jwp (mkE W E) L b s Q)
 | _=>False):E.other (.cond c a b) s Q:=by
 show (mkE W E).other _ _ _
 rw [←hE] at h ⊢
 refine cond_AW ?_
 split at h
 case h_2=>exact h.elim
 rename_i x hx
 have h:(mkE W E).ifb x (fun _=>jwp (dom P A) L a s Q) (fun _=>jwp (dom P A) L b s Q):=h
 rw [←hE] at h
 exact ⟨fun e=>jwp_sound hL _ _ _ (h.1 e),fun e=>jwp_sound hL _ _ _ (h.2 e)⟩
theorem L_cdJ (hL:LayOk P L) {β Γ:Type} {v:β} {G:Option Γ} {X:Γ→Option β} {c:Operand} {a b:Code} {s:St} {Q:Ex→St→Prop} (h:G.bind X=some v) (n:Nat) (slots:Γ→List (Tmp × V)) (rows:Γ→List (Nat × Row))
 (h1:∀g,G=some g→match s.ev c with
  | .t (.flat (.bool x))=>E.ifb x (fun _=>jwp (mkE W E) L a s fun e s'=>match e with | .normal=>s'.le (joinOf (.cond c a b) s n (slots g) (rows g)) | _=>False) (fun _=>jwp (mkE W E) L b s fun e s'=>match e with | .normal=>s'.le (joinOf (.cond c a b) s n (slots g) (rows g)) | _=>False)
  | _=>False)
 (h2:∀g,X g=some v→Q .normal (joinOf (.cond c a b) s n (slots g) (rows g))):E.other (.cond c a b) s Q:=by
 obtain ⟨g,g1,g2⟩:=conv_some h
 have h1:=h1 g g1
 have:=L_cd hE hL (Q:=fun e s'=>match e with | .normal=>s'.le (joinOf (.cond c a b) s n (slots g) (rows g)) | _=>False) h1
 have this:(mkE W E).other _ _ _:=this
 show (mkE W E).other _ _ _
 rw [←hE] at this ⊢
 refine AW.join (t:=joinOf (.cond c a b) s n (slots g) (rows g)) (fun cx a' w R=>?_) (h2 g g2)
 refine wp_mono (this cx a' w R) fun e a w h=>?_
 rcases h with ⟨e',s',cx',h1,h2,h3⟩ | h
 case inr=>exact .inr h
 cases e'<;>first | exact .inl ⟨.normal,s',cx',h1,h2,h3⟩ | exact h2.elim
theorem L_body (hL:LayOk P L) {f:FuncId} {fn:Func} {c:Code} {args:List V} {s:St} {K:V→St→Prop} (hcall:Callable P f) (hf:P.funcs[f]?=some fn) (hb:fn.body=some c)
 (h:∀(A':Run) (E':Env) (Q:Ex→St→Prop),dom P A'=mkE W E'→(∀id,(s.heap.length≤id∨(E.free id∧∃ty es rows,s.heap.getD id none=some (.list ty es rows)))→E'.free id)→(∀s' r,resV L fn.results.toList s'=some r→K r ⟨s.tmps.map (V.calm s.heap),s'.heap,s.base⟩→Q .ret s'∧Q .normal s')→
  jwp (mkE W E') L c ⟨args++List.replicate (fn.ntmps-args.length) .junk,s.heap,s.heap.length⟩ Q):E.call f args s K:=by
 show (mkE W E).call _ _ _ _
 have hf0:∀id,E.free id→A.pin id=none:=fun id h=>by
  have e:(mkE W E).free id:=h
  rw [←hE] at e;exact e
 rw [←hE]
 refine call_body hL hcall hf hb fun A' Q hp hfr hQ=>?_
 have g:dom P A'=mkE W (dom P A'):=by rw [wE hE];rfl
 refine jwp_sound hL _ _ _ ?_
 rw [g]
 exact h A' _ Q g (fun id hid=>hfr id (hid.imp (fun h=>h) fun h=>⟨hf0 id h.1,h.2⟩)) hQ
end
theorem fun_w {P:Program} {L:TypeId→Option Lt} (hL:LayOk P L) {f:FuncId} {fn:Func} {c:Code} {args:List V} {v:V} (hcall:Callable P f) (hf:P.funcs[f]?=some fn) (hb:fn.body=some c)
 (h:∀(A:Run) (W:Wd) (E:Env) (Q:Ex→St→Prop) (R:(α:Type)→(α→List Ab.T)→List α→Ab.Rows),dom P A=mkE W E→R=rw→(∀id,E.free id)→(∀s r v',resV L fn.results.toList s=some r→r.frz s.heap=some v'→nrm v'=v→Q .ret s∧Q .normal s)→jwp (mkE W E) L c ⟨args++List.replicate (fn.ntmps-args.length) .junk,[],0⟩ Q):Fun P f args v:=
 Fun_of hL hcall hf hb fun A Q hf hQ=>jwp_sound hL _ _ _ (h A (dom P A).wd (dom P A) Q rw rfl rfl hf fun s r v' h1 h2 h3=>hQ s r v' h1 h2 (h3▸nrm_le v'))
theorem list_w {P:Program} {L:TypeId→Option Lt} (hL:LayOk P L) {f:FuncId} {fn:Func} {c:Code} {args:List V} {ty es:Nat} {rows:Ab.Rows} (hcall:Callable P f) (hf:P.funcs[f]?=some fn) (hb:fn.body=some c)
 (h:∀(A:Run) (W:Wd) (E:Env) (Q:Ex→St→Prop) (R:(α:Type)→(α→List Ab.T)→List α→Ab.Rows),dom P A=mkE W E→R=rw→(∀id,E.free id)→(∀s r,resV L fn.results.toList s=some r→ownV s r ty es rows→Q .ret s∧Q .normal s)→jwp (mkE W E) L c ⟨args++List.replicate (fn.ntmps-args.length) .junk,[],0⟩ Q):FunL P f args ty es rows:=
 FunL_of hL hcall hf hb fun A Q hf hQ=>jwp_sound hL _ _ _ (h A (dom P A).wd (dom P A) Q rw rfl rfl hf hQ)
theorem flat_I {k:IntKind}:∀x,∀t∈cI k x,∃u,t=.flat u:=fun x t h=>by simp [cI] at h;exact ⟨_,h⟩
section
variable {β:Type} {x y:Int} {s t:ByteArray} {i j:Int}
theorem cm_eql:cm .eql x y=decide (x=y):=Bool.beq_eq_decide_eq x y
theorem cm_neq:cm .neq x y= !decide (x=y):=by show (!(x==y))=_;rw [Bool.beq_eq_decide_eq]
theorem cm_lss:cm .lss x y=decide (x<y):=rfl
theorem cm_leq:cm .leq x y=decide (x≤y):=rfl
theorem cm_gtr:cm .gtr x y=decide (y<x):=rfl
theorem cm_geq:cm .geq x y=decide (y≤x):=rfl
theorem ar_add (h1: -9223372036854775808≤x+y) (h2:x+y≤9223372036854775807):ar .add .i64 x y=x+y:=by show IntKind.i64.wrap (x+y)=_;rw [IntKind.wrap_i64];omega
theorem ar_sub (h1: -9223372036854775808≤x-y) (h2:x-y≤9223372036854775807):ar .sub .i64 x y=x-y:=by show IntKind.i64.wrap (x-y)=_;rw [IntKind.wrap_i64];omega
theorem ar_mul (h1: -9223372036854775808≤x*y) (h2:x*y≤9223372036854775807):ar .mul .i64 x y=x*y:=by show IntKind.i64.wrap (x*y)=_;rw [IntKind.wrap_i64];omega
theorem ll_eq {α:Type} {c:α→List Ab.T} {l:List α}:ll (rw α c l)=l.length:=by show ((List.map c l).length:Int)=_;rw [List.length_map]
theorem cond_dec {p:Prop} [Decidable p] {X Y:β}:cond (decide p) X Y=if p then X else Y:=by by_cases h:p<;>simp [h]
theorem cond_not {b:Bool} {X Y:β}:cond (!b) X Y=cond b Y X:=by cases b<;>rfl
end
end Sh
end Go.Proofs.YtbpihhelojjedaaDoor
namespace Go.Proofs.YtbpihhelojjedaaDoor
open Go
namespace Ab
namespace Ly
def l3:Option Lt:=some {ik:=some .i64,size:=1,bytes:=8,zero:=[.int .i64 0]}
def l4:Option Lt:=some {kind:=5,size:=1,bytes:=1,zero:=[.bool false]}
def l5:Option Lt:=some {ik:=some .u8,size:=1,bytes:=1,zero:=[.int .u8 0]}
def l9:Option Lt:=some {kind:=4,size:=1,bytes:=16,zero:=[.string ByteArray.empty]}
def l20:Option Lt:=some {size:=1,bytes:=16,zero:=[.nilIface]}
def l22:Option Lt:=some {kind:=3,elem:=32,size:=1,bytes:=24,zero:=[.slice none 0 0]}
def l23:Option Lt:=some {kind:=3,elem:=3,size:=1,bytes:=24,zero:=[.slice none 0 0]}
def l24:Option Lt:=some {kind:=3,elem:=23,size:=1,bytes:=24,zero:=[.slice none 0 0]}
def l25:Option Lt:=some {kind:=1,parts:=[(0,1,false),(1,1,false),(2,1,false),(3,1,false),(4,1,false)],size:=5,bytes:=104,zero:=[.slice none 0 0,.bool false,.slice none 0 0,.slice none 0 0,.slice none 0 0]}
def l26:Option Lt:=some {kind:=1,parts:=[(0,1,false),(1,1,false),(2,1,false),(3,1,false),(4,1,false)],size:=5,bytes:=104,zero:=[.slice none 0 0,.bool false,.slice none 0 0,.slice none 0 0,.slice none 0 0]}
def l30:Option Lt:=some {ik:=some .u64,size:=1,bytes:=8,zero:=[.int .u64 0]}
def l31:Option Lt:=some {kind:=2,len:=4,elem:=30,ck:=some [.i .u64,.i .u64,.i .u64,.i .u64],size:=4,bytes:=32,zero:=[.int .u64 0,.int .u64 0,.int .u64 0,.int .u64 0]}
def l32:Option Lt:=some {kind:=2,len:=4,elem:=30,ck:=some [.i .u64,.i .u64,.i .u64,.i .u64],size:=4,bytes:=32,zero:=[.int .u64 0,.int .u64 0,.int .u64 0,.int .u64 0]}
def l33:Option Lt:=some {kind:=3,elem:=35,size:=1,bytes:=24,zero:=[.slice none 0 0]}
def l34:Option Lt:=some {kind:=1,parts:=[(0,1,false),(1,4,true),(5,1,false),(6,1,false),(7,1,false)],size:=8,bytes:=80,zero:=[.int .i64 0,.int .u64 0,.int .u64 0,.int .u64 0,.int .u64 0,.slice none 0 0,.int .i64 0,.int .i64 0]}
def l35:Option Lt:=some {kind:=1,parts:=[(0,1,false),(1,4,true),(5,1,false),(6,1,false),(7,1,false)],size:=8,bytes:=80,zero:=[.int .i64 0,.int .u64 0,.int .u64 0,.int .u64 0,.int .u64 0,.slice none 0 0,.int .i64 0,.int .i64 0]}
def l38:Option Lt:=some {ik:=some .i64,size:=1,bytes:=8,zero:=[.int .i64 0]}
def l43:Option Lt:=some {kind:=1,parts:=[(0,1,false),(1,1,false)],ck:=some [.i .i64,.i .i64],size:=2,bytes:=16,zero:=[.int .i64 0,.int .i64 0]}
def l44:Option Lt:=some {kind:=1,parts:=[(0,1,false),(1,1,false)],ck:=some [.i .i64,.i .i64],size:=2,bytes:=16,zero:=[.int .i64 0,.int .i64 0]}
def l49:Option Lt:=some {size:=1,bytes:=8,zero:=[.nilFunc]}
def l50:Option Lt:=some {kind:=3,elem:=4,size:=1,bytes:=24,zero:=[.slice none 0 0]}
def l53:Option Lt:=some {size:=1,bytes:=8,zero:=[.nilFunc]}
def l58:Option Lt:=some {kind:=1,parts:=[(0,5,true)],size:=5,bytes:=104,zero:=[.slice none 0 0,.bool false,.slice none 0 0,.slice none 0 0,.slice none 0 0]}
def l59:Option Lt:=some {kind:=1,parts:=[(0,5,true)],size:=5,bytes:=104,zero:=[.slice none 0 0,.bool false,.slice none 0 0,.slice none 0 0,.slice none 0 0]}
def l60:Option Lt:=some {kind:=1,parts:=[(0,1,false),(1,1,false),(2,1,false)],size:=3,bytes:=56,zero:=[.slice none 0 0,.slice none 0 0,.bool false]}
def l61:Option Lt:=some {kind:=1,parts:=[(0,1,false),(1,1,false),(2,1,false)],size:=3,bytes:=56,zero:=[.slice none 0 0,.slice none 0 0,.bool false]}
def l64:Option Lt:=some {kind:=1,parts:=[(0,1,false),(1,1,false),(2,1,false),(3,1,false),(4,1,false)],size:=5,bytes:=104,zero:=[.slice none 0 0,.slice none 0 0,.slice none 0 0,.slice none 0 0,.bool false]}
def l65:Option Lt:=some {kind:=1,parts:=[(0,1,false),(1,1,false),(2,1,false),(3,1,false),(4,1,false)],size:=5,bytes:=104,zero:=[.slice none 0 0,.slice none 0 0,.slice none 0 0,.slice none 0 0,.bool false]}
def l70:Option Lt:=some {kind:=1,parts:=[(0,2,true)],size:=2,bytes:=16,zero:=[.int .i64 0,.int .i64 0]}
def l71:Option Lt:=some {kind:=1,parts:=[(0,2,true)],size:=2,bytes:=16,zero:=[.int .i64 0,.int .i64 0]}
def l72:Option Lt:=some {size:=1,bytes:=8,zero:=[.pointer none]}
def l73:Option Lt:=some {kind:=1,parts:=[(0,1,false),(1,1,false),(2,1,false)],ck:=some [.s,.i .i64,.i .i64],size:=3,bytes:=32,zero:=[.string ByteArray.empty,.int .i64 0,.int .i64 0]}
def l74:Option Lt:=some {kind:=1,parts:=[(0,1,false),(1,1,false),(2,1,false)],ck:=some [.s,.i .i64,.i .i64],size:=3,bytes:=32,zero:=[.string ByteArray.empty,.int .i64 0,.int .i64 0]}
def l78:Option Lt:=some {size:=1,bytes:=8,zero:=[.pointer none]}
def l85:Option Lt:=some {kind:=3,elem:=4,size:=1,bytes:=24,zero:=[.slice none 0 0]}
def l93:Option Lt:=some {size:=1,bytes:=8,zero:=[.nilFunc]}
def l98:Option Lt:=some {ik:=some .u64,size:=1,bytes:=8,zero:=[.int .u64 0]}
def l104:Option Lt:=some {ik:=some .i64,size:=1,bytes:=8,zero:=[.int .i64 0]}
def l118:Option Lt:=some {ik:=some .u64,size:=1,bytes:=8,zero:=[.int .u64 0]}
def l122:Option Lt:=some {size:=1,bytes:=8,zero:=[.pointer none]}
def lay (t : TypeId):Option Lt:=
 match Nat.ble 50 t with
 | true=>
   match Nat.ble 72 t with
   | true=>
     match Nat.ble 93 t with
     | true=>
       match Nat.ble 104 t with
       | true=>
         match Nat.ble 118 t with
         | true=>
           match Nat.ble 122 t with
           | true=>
             match Nat.beq 122 t with
             | true=>l122
             | false=>none
           | false=>
             match Nat.beq 118 t with
             | true=>l118
             | false=>none
         | false=>
           match Nat.beq 104 t with
           | true=>l104
           | false=>none
       | false=>
         match Nat.ble 98 t with
         | true=>
           match Nat.beq 98 t with
           | true=>l98
           | false=>none
         | false=>
           match Nat.beq 93 t with
           | true=>l93
           | false=>none
     | false =>
       match Nat.ble 74 t with
       | true=>
         match Nat.ble 78 t with
         | true=>
           match Nat.ble 85 t with
           | true=>
             match Nat.beq 85 t with
             | true=>l85
             | false=>none
           | false=>
             match Nat.beq 78 t with
             | true=>l78
             | false=>none
         | false=>
           match Nat.beq 74 t with
           | true=>l74
           | false=>none
       | false=>
         match Nat.ble 73 t with
         | true=>
           match Nat.beq 73 t with
           | true=>l73
           | false=>none
         | false=>
           match Nat.beq 72 t with
           | true=>l72
           | false=>none
   | false =>
     match Nat.ble 61 t with
     | true=>
       match Nat.ble 65 t with
       | true=>
         match Nat.ble 70 t with
         | true=>
           match Nat.ble 71 t with
           | true=>
             match Nat.beq 71 t with
             | true=>l71
             | false=>none
           | false=>
             match Nat.beq 70 t with
             | true=>l70
             | false=>none
         | false=>
           match Nat.beq 65 t with
           | true=>l65
           | false=>none
       | false=>
         match Nat.ble 64 t with
         | true=>
           match Nat.beq 64 t with
           | true=>l64
           | false=>none
         | false=>
           match Nat.beq 61 t with
           | true=>l61
           | false=>none
     | false =>
       match Nat.ble 58 t with
       | true=>
         match Nat.ble 59 t with
         | true=>
           match Nat.ble 60 t with
           | true=>
             match Nat.beq 60 t with
             | true=>l60
             | false=>none
           | false=>
             match Nat.beq 59 t with
             | true=>l59
             | false=>none
         | false=>
           match Nat.beq 58 t with
           | true=>l58
           | false=>none
       | false=>
         match Nat.ble 53 t with
         | true=>
           match Nat.beq 53 t with
           | true=>l53
           | false=>none
         | false=>
           match Nat.beq 50 t with
           | true=>l50
           | false=>none
 | false =>
   match Nat.ble 30 t with
   | true=>
     match Nat.ble 35 t with
     | true=>
       match Nat.ble 43 t with
       | true=>
         match Nat.ble 44 t with
         | true=>
           match Nat.ble 49 t with
           | true=>
             match Nat.beq 49 t with
             | true=>l49
             | false=>none
           | false=>
             match Nat.beq 44 t with
             | true=>l44
             | false=>none
         | false=>
           match Nat.beq 43 t with
           | true=>l43
           | false=>none
       | false=>
         match Nat.ble 38 t with
         | true=>
           match Nat.beq 38 t with
           | true=>l38
           | false=>none
         | false=>
           match Nat.beq 35 t with
           | true=>l35
           | false=>none
     | false =>
       match Nat.ble 32 t with
       | true=>
         match Nat.ble 33 t with
         | true=>
           match Nat.ble 34 t with
           | true=>
             match Nat.beq 34 t with
             | true=>l34
             | false=>none
           | false=>
             match Nat.beq 33 t with
             | true=>l33
             | false=>none
         | false=>
           match Nat.beq 32 t with
           | true=>l32
           | false=>none
       | false=>
         match Nat.ble 31 t with
         | true=>
           match Nat.beq 31 t with
           | true=>l31
           | false=>none
         | false=>
           match Nat.beq 30 t with
           | true=>l30
           | false=>none
   | false =>
     match Nat.ble 22 t with
     | true=>
       match Nat.ble 24 t with
       | true=>
         match Nat.ble 25 t with
         | true=>
           match Nat.ble 26 t with
           | true=>
             match Nat.beq 26 t with
             | true=>l26
             | false=>none
           | false=>
             match Nat.beq 25 t with
             | true=>l25
             | false=>none
         | false=>
           match Nat.beq 24 t with
           | true=>l24
           | false=>none
       | false=>
         match Nat.ble 23 t with
         | true=>
           match Nat.beq 23 t with
           | true=>l23
           | false=>none
         | false=>
           match Nat.beq 22 t with
           | true=>l22
           | false=>none
     | false =>
       match Nat.ble 5 t with
       | true=>
         match Nat.ble 9 t with
         | true=>
           match Nat.ble 20 t with
           | true=>
             match Nat.beq 20 t with
             | true=>l20
             | false=>none
           | false=>
             match Nat.beq 9 t with
             | true=>l9
             | false=>none
         | false=>
           match Nat.beq 5 t with
           | true=>l5
           | false=>none
       | false=>
         match Nat.ble 4 t with
         | true=>
           match Nat.beq 4 t with
           | true=>l4
           | false=>none
         | false=>
           match Nat.beq 3 t with
           | true=>l3
           | false=>none
end Ly
def lay (t:TypeId):Option Lt:=
 match Nat.blt t 146 with
 | true=>Ly.lay t
 | false=>none
theorem lay_ok:LayOk Tryd.prog lay:=layOk_fn 146 lay (fun t h=>by unfold lay;rw [blt_no h]) (by kernel_rfl)
end Ab
end Go.Proofs.YtbpihhelojjedaaDoor
