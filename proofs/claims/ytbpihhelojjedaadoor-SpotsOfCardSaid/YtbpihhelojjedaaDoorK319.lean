/- Texts that the proof leans on. -/
import Derived.Test.YtbpihhelojjedaaDoorK318
set_option linter.unusedVariables false
set_option linter.unusedSimpArgs false
set_option maxRecDepth 100000
set_option maxHeartbeats 4000000
namespace Go.Proofs.YtbpihhelojjedaaDoor
open Go Go.RowKit
open Ab
mutual
def nodeRow:Node→List Ab.T
 | .mk k S kids lo hi=>[.flat (.int .i64 k),.flat (.int .u64 S.a.toNat),.flat (.int .u64 S.b.toNat),.flat (.int .u64 S.c.toNat),.flat (.int .u64 S.d.toNat),.slc (nodeRows kids),.flat (.int .i64 lo),.flat (.int .i64 hi)]
def nodeRows:List Node→Ab.Rows
 | []=>[]
 | n::r=>nodeRow n::nodeRows r
end
structure NS where
 k:Int
 S:CSet
 ks:Ab.Rows
 lo:Int
 hi:Int
def ns (n:Node):NS:=⟨n.kind,n.set,nodeRows n.kids,n.min,n.max⟩
def nsR (n:NS):List Ab.T:=[.flat (.int .i64 n.k),.flat (.int .u64 n.S.a.toNat),.flat (.int .u64 n.S.b.toNat),.flat (.int .u64 n.S.c.toNat),.flat (.int .u64 n.S.d.toNat),.slc n.ks,.flat (.int .i64 n.lo),.flat (.int .i64 n.hi)]
def nsV (n:NS):V:=.agg [fI .i64 n.k,fI .u64 n.S.a.toNat,fI .u64 n.S.b.toNat,fI .u64 n.S.c.toNat,fI .u64 n.S.d.toNat,.t (.slc n.ks),fI .i64 n.lo,fI .i64 n.hi]
def nodeV (n:Node):V:=nsV (ns n)
theorem nodeRow_ns (n:Node):nodeRow n=nsR (ns n):=by cases n;unfold nodeRow;rfl
theorem nodeRows_map (l:List Node):nodeRows l=l.map nodeRow:=by
 induction l with
 | nil=>unfold nodeRows;rfl
 | cons n r ih=>unfold nodeRows;rw [ih];rfl
theorem nodeRows_len (l:List Node):(nodeRows l).length=l.length:=by rw [nodeRows_map];simp
theorem nodeRows_app (a b:List Node):nodeRows (a++b)=nodeRows a++nodeRows b:=by simp [nodeRows_map]
theorem nodeRow_len (n:Node):(nodeRow n).length=8:=by cases n;unfold nodeRow;rfl
theorem nodeRows_es (l:List Node):∀row∈nodeRows l,row.length=8:=by
 rw [nodeRows_map];intro row h
 obtain ⟨n,-,rfl⟩:=List.mem_map.1 h
 exact nodeRow_len n
theorem nodeRows_at (l:List Node) (i:Nat) (h:i<l.length):(nodeRows l)[i]?=some (nsR (ns l[i])):=by rw [nodeRows_map,List.getElem?_map,List.getElem?_eq_getElem h];simp [nodeRow_ns]
namespace Rd
theorem join_c (k:Int) (l:List Node) (hl:Node.sizes l≤1000000):Fun Tryd.prog 57 [fI .i64 k,.t (.slc (nodeRows l))] (nodeV (Rx.join k l)):=by
 have hll:=Node.length_le_sizes l
 obtain ⟨X,hX⟩:∃X,X=nodeRows l:=⟨_,rfl⟩
 have hXl:X.length=l.length:=by rw [hX,nodeRows_len]
 obtain ⟨O,hO⟩:∃O:Nat→Ab.Rows,O=fun j=>nodeRows (Rx.flat k (l.take j)):=⟨_,rfl⟩
 have hO0:O 0=[]:=by rw [hO];simp [Rx.flat,nodeRows]
 rw [←hX]
 refine fun_of lay_ok (Tryd.call57) (Tryd.func57) rfl ?_
 intro A E Q hE hf hQ
 cbv
 repeat' (first | (refine r_true hE rfl ?_;cbv) | (refine r_false hE rfl ?_;cbv) | (refine c_eql hE (fun h=>?_) (fun h=>?_)<;>first | (exfalso;omega) | cbv) | (refine c_neq hE (fun h=>?_) (fun h=>?_)<;>first | (exfalso;omega) | cbv) | (refine c_lss hE (fun h=>?_) (fun h=>?_)<;>first | (exfalso;omega) | cbv) | (refine c_leq hE (fun h=>?_) (fun h=>?_)<;>first | (exfalso;omega) | cbv) | (refine c_gtr hE (fun h=>?_) (fun h=>?_)<;>first | (exfalso;omega) | cbv) | (refine c_geq hE (fun h=>?_) (fun h=>?_)<;>first | (exfalso;omega) | cbv) | (refine c_seql hE (fun h=>?_) (fun h=>?_)<;>first | (exfalso;omega) | cbv) | (refine c_sneq hE (fun h=>?_) (fun h=>?_)<;>first | (exfalso;omega) | cbv) | (refine r_sin hE ?_ ?_ ?_;rotate_left 2;cbv) | (refine r_ssin hE ?_ ?_ ?_ ?_;rotate_left 3;cbv) | (refine use_draw hE lay_ok (by kernel_rfl) (by kernel_rfl) ?_;cbv) | (refine c_b hE (fun h=>?_) (fun h=>?_)<;>cbv))
 refine use_for hE lay_ok 1 (fun g:Nat × Int=>[(5,.lst 1),(10,fI .i64 g.2)]) (fun g=>[(1,.list 35 8 (O g.1))]) (fun g=>g.2=((g.1:Nat):Int)∧g.1≤l.length) (fun g=>l.length-g.1) (0,0) ⟨rfl,Nat.zero_le _⟩ ?_ ?_
 · cbv
   refine ⟨⟨.inr trivial,trivial⟩,⟨?_,trivial⟩,trivial⟩
   show (match Row.list 35 8 (O 0) with | Row.list ty es []=>True | x=>False)
   rw [hO0];trivial
 rintro ⟨j,J⟩ ⟨hJ,hj⟩ Q' hN hR hX'
 have hJ:J=((j:Nat):Int):=hJ
 have hj:j≤l.length:=hj
 have eL:=e_llen hE X
 have hfl:=Rx.flat_sizes k (l.take j)
 have hfl2:=Node.length_le_sizes (Rx.flat k (l.take j))
 have htk:Node.sizes (l.take j)≤Node.sizes l:=by
  conv=>rhs;rw [←List.take_append_drop j l,Node.sizes_append]
  omega
 have hOj:(O j).length≤1000000:=by rw [hO,nodeRows_len];omega
 have f0:0≤J:=by omega
 have f1:J<(X.length:Int)→j<l.length:=by omega
 have f2:¬ J<(X.length:Int)→j=l.length:=by omega
 have f3:J.toNat=j:=by omega
 have f4:=e_inc hE hJ (by omega)
 cbv
 refine c_lss hE (fun h=>?_) (fun h=>?_)<;>cbv
 · have h':J<E.llen X:=h
   rw [eL] at h'
   have hlt:j<l.length:=f1 h'
   obtain ⟨n,hn⟩:∃n,n=ns l[j]:=⟨_,rfl⟩
   have hat:X[J.toNat]?=some (nsR n):=by rw [hX,f3,hn];exact nodeRows_at l j hlt
   have hkn:n.k=l[j].kind:=by rw [hn];rfl
   have hks:n.ks=nodeRows l[j].kids:=by rw [hn];rfl
   have hkl:n.ks.length≤1000000:=by
    rw [hks,nodeRows_len]
    have h1:=Node.kids_le l[j]
    have h2:l[j].size≤Node.sizes l:=by
     conv=>rhs;rw [←List.take_append_drop j l,Node.sizes_append,List.drop_eq_getElem_cons hlt,Node.sizes_cons]
     omega
    omega
   have hes:∀row∈n.ks,row.length=8:=by rw [hks];exact nodeRows_es _
   have hst:O (j+1)=O j++nodeRows (if l[j].kind=k then l[j].kids else [l[j]]):=by
    rw [hO];show nodeRows (Rx.flat k (l.take (j+1)))=nodeRows (Rx.flat k (l.take j))++_
    rw [List.take_succ_eq_append_getElem hlt,Rx.flat_append,Rx.flat_one,nodeRows_app]
   have st1:n.k=k→E.lapp (O j) n.ks=O (j+1):=fun h=>by rw [e_app hE,hst,if_pos (hkn▸h),hks]
   have st2:¬ n.k=k→E.lapp (O j) [nsR n]=O (j+1):=fun h=>by rw [e_app hE,hst,if_neg (hkn▸h),hn,←nodeRow_ns];unfold nodeRows;unfold nodeRows;rfl
   refine r_row hE f0 hat ?_
   cbv
   refine c_eql hE (fun h=>?_) (fun h=>?_)<;>cbv
   · refine And.intro (hf _) (r_room hE ?_ ?_ ?_ ?_)
     · exact hes
     · show (O j).length+n.ks.length≤_;omega
     · decide
     cbv
     refine hN _ (j+1,_) ⟨f4,hlt⟩ ?_ ?_
     · show l.length-(j+1)<l.length-j;omega
     · cbv
       exact ⟨⟨st1 h,trivial⟩,trivial⟩
   · refine And.intro (hf _) (r_room hE ?_ ?_ ?_ ?_)
     · simp
     · show (O j).length+1≤_;omega
     · decide
     cbv
     refine hN _ (j+1,_) ⟨f4,hlt⟩ ?_ ?_
     · show l.length-(j+1)<l.length-j;omega
     · cbv
       exact ⟨⟨st2 h,trivial⟩,trivial⟩
 · have h':¬ J<E.llen X:=h
   rw [eL] at h'
   have hjl:j=l.length:=f2 h'
   have eO:O j=nodeRows (Rx.flat k l):=by rw [hO,hjl];simp
   have eLO:=e_llen hE (O j)
   rw [show (O j).length=(Rx.flat k l).length by rw [eO,nodeRows_len]] at eLO
   refine hX' _ _ ?_
   cbv
   refine c_eql hE (fun h=>?_) (fun h=>?_)<;>cbv
   · have h1:E.llen (O j)=1:=h
     rw [eLO] at h1
     obtain ⟨m,hm⟩:∃m,Rx.flat k l=[m]:=List.length_eq_one_iff.1 (by exact_mod_cast h1)
     have hj1:Rx.join k l=m:=by unfold Rx.join;rw [hm]
     obtain ⟨n,hn⟩:∃n,n=ns m:=⟨_,rfl⟩
     have hat:(O j)[(0:Int).toNat]?=some (nsR n):=by rw [eO,hm,hn,←nodeRow_ns];unfold nodeRows;rfl
     refine r_row hE (by decide) hat ?_
     cbv
     refine r_row hE (by decide) hat ?_
     cbv
     exact And.left (hQ _ _ _ rfl rfl (by rw [hj1];unfold nodeV;rw [←hn];rfl))
   · have h1:¬ E.llen (O j)=1:=h
     rw [eLO] at h1
     have hj1:nodeV (Rx.join k l)=nsV ⟨k,CSet.empty,O j,0,0⟩:=by
      rw [eO];unfold Rx.join
      split
      · rename_i m hm;rw [hm] at h1;exact absurd rfl h1
      · rfl
     exact And.left (hQ _ _ _ rfl rfl (by rw [hj1];rfl))
end Rd
end Go.Proofs.YtbpihhelojjedaaDoor
namespace Go.Proofs.YtbpihhelojjedaaDoor
open Go Go.RowKit
open Ab
namespace Sh
def nodeLit (R:(α:Type)→(α→List Ab.T)→List α→Ab.Rows) (x:Node):List Ab.T:=[.flat (.int .i64 x.kind),.flat (.int .u64 (x.set.a.toNat:Int)),.flat (.int .u64 (x.set.b.toNat:Int)),.flat (.int .u64 (x.set.c.toNat:Int)),.flat (.int .u64 (x.set.d.toNat:Int)),.slc (R Node nodeRow x.kids),.flat (.int .i64 x.min),.flat (.int .i64 x.max)]
theorem nodeRow_lit (x:Node):nodeRow x=nodeLit rw x:=by
 cases x;unfold nodeRow;rw [nodeRows_map];rfl
def cSet (x:CSet):List Ab.T:=[.flat (.int .u64 (x.a.toNat:Int)),.flat (.int .u64 (x.b.toNat:Int)),.flat (.int .u64 (x.c.toNat:Int)),.flat (.int .u64 (x.d.toNat:Int))]
def cLs {α:Type} (c:α→List Ab.T) (x:List α):List Ab.T:=[.slc (rw _ c x)]
def litL (R:RF) {α:Type} (c:α→List Ab.T) (x:List α):List Ab.T:=[.slc (R _ c x)]
section
variable {P:Program} {A:Run} {W:Wd} {E:Env} (hE:dom P A=mkE W E) {R:(α:Type)→(α→List Ab.T)→List α→Ab.Rows} (hR:R=rw)
include hR
include hE
theorem L_rowN {β:Type} {v:β} {l:List Node} {i:Int} {X:Node→Option β} {k:List Ab.T→Prop} (h:(at_ l i).bind X=some v) (kk:∀x,X x=some v→k (nodeLit R x)):E.row (R Node nodeRow l) i k:=
 L_row hE hR h fun x h=>by
  have:=kk x h
  subst hR
  rw [nodeRow_lit];exact this
theorem L_rowL {α β:Type} {v:β} {c:α→List Ab.T} {l:List (List α)} {i:Int} {X:List α→Option β} {k:List Ab.T→Prop} (h:(at_ l i).bind X=some v) (kk:∀x,X x=some v→k (litL R c x)):E.row (R (List α) (cLs c) l) i k:=
 L_row hE hR h fun x h=>by
  have:=kk x h
  subst hR
  exact this
theorem L_putL {α β:Type} {v:β} {c:α→List Ab.T} {l:List (List α)} {y:List α} {i:Int} {X:List (List α)→Option β} {p:Prop} (h:put (cLs c) l i y X=some v) (k:∀l',W.lset (R _ (cLs c) l) i (litL R c y)=R _ (cLs c) l'→X l'=some v→p):p:=
 L_put hE hR h fun l' e h=>k l' (by subst hR;exact e) h
end
end Sh
end Go.Proofs.YtbpihhelojjedaaDoor
namespace Go.Proofs.YtbpihhelojjedaaDoor
open Go Go.RowKit
open Ab Sh
namespace Gn
structure GFault where
 E:Int
 At:Int
end Gn
end Go.Proofs.YtbpihhelojjedaaDoor
namespace Go.Proofs.YtbpihhelojjedaaDoor
open Go Go.RowKit
open Ab
namespace Rd
theorem use_rn {P:Program} {A:Run} {E:Env} (hE:dom P A=E) {f:FuncId} {ty:TypeId} {id:Nat} {cells0 cells args args':List V} {s:St} {t:ByteArray} {op:Int} {r:Res Node} {K:V→St→Prop} (hM:Meth P f ty cells args' (rdOut t op nodeV r)) (hrow:s.heap.getD id none=some (.box ty cells0)) (hcs:nrm.nrmL cells0=cells) (he:nrm.nrmL args=args') (hcc:cells0.all V.closedB=true) (hca:args.all V.closedB=true) (ho:r≠.out)
 (h1:∀n p J x,r=.ok n p→J=((p:Nat):Int)→x=ns n→K (nsV x) (s.setRow id (.box ty [fS t,fI .i64 J,fI .i64 op]))) (h2:∀e p X,r=.bad e p→X=((p:Nat):Int)→E.pan (faultV e X) (s.setRow id (.box ty (List.replicate cells0.length .junk)))):E.call f (.ptr id 0::args) s K:=
 use_rd hE hM hrow hcs he hcc hca ho (fun n p J hr hJ=>h1 n p J _ hr hJ rfl) h2
def nd (l:List UInt8) (i:Nat) (b:Int):Res Unit:=if Rx.pk l i=b then .ok () (i+1) else Rx.other l i
def shU (_:Unit):V:=.tup []
theorem nd_ne (l:List UInt8) (i:Nat) (b:Int):nd l i b≠.out:=by
 unfold nd;split
 · simp
 · unfold Rx.other;split<;>simp
theorem need_c (s:ByteArray) {I:Int} {i:Nat} (op:Int) {b:Int} (hI:I=i) (hi:i≤s.size) (hs:s.size≤1000) (hb:0≤b∧b≤255):Meth Tryd.prog 74 74 (rd s I op) [fI .u8 b] (rdOut s op shU (nd s.data.toList i b)):=by
 have hl:s.data.toList.length=s.size:=by simp
 have hpk:pkI s I=Rx.pk s.data.toList i:=by unfold pkI;rw [hI];rfl
 unfold nd
 by_cases h:Rx.pk s.data.toList i=b
 · rw [if_pos h]
   have:=need_yes s op (i:=I) (b:=b) (by omega) (by rw [hpk,h]) hb.1 (by omega)
   rw [show I+1=((i+1:Nat):Int) by omega] at this
   exact this
 · rw [if_neg h]
   rcases Nat.lt_or_ge i s.size with g | g
   · have:=need_form s op (i:=I) (b:=b) (by omega) (by omega) hb (by rw [hpk];exact h)
     rw [show (Rx.other s.data.toList i:Res Unit)=.bad 2 i by unfold Rx.other;rw [if_neg (fun e=>by have:=pk_ge (l:=s.data.toList) (i:=i) (by omega);omega)]]
     rw [hI] at this ⊢;exact this
   · have:=need_end s op (i:=I) (b:=b) (by omega) (by omega) hb
     rw [other_end (by omega),←hl] at *;exact this
theorem rep_v (n:Node) (lo hi:Int):nodeV (Rx.rep n lo hi)=nsV ⟨4,CSet.empty,[nsR (ns n)],lo,hi⟩:=by
 rw [←nodeRow_ns]
 show nsV ⟨4,CSet.empty,nodeRows [n],lo,hi⟩=_
 unfold nodeRows;unfold nodeRows;rfl
section
variable {l:List UInt8} {atm:Nat→Res Node} {i p q:Nat} {n:Node} {e:Int}
theorem piece_bad (h:atm i=.bad e p):Rx.piece l atm i=.bad e p:=by unfold Rx.piece;rw [h]
theorem piece_brc_bad (h:atm i=.ok n p) (hb:Rx.pk l p=123) (h2:Rx.brc l (p+1)=.bad e q):Rx.piece l atm i=.bad e q:=by unfold Rx.piece;rw [h];dsimp only;rw [hb,h2];rfl
theorem piece_nd_bad {a:Int × Int} {e:Int} {z:Nat} (h:atm i=.ok n p) (hb:Rx.pk l p=123) (h2:Rx.brc l (p+1)=.ok a q) (h3:nd l q 125=.bad e z):Rx.piece l atm i=.bad e z:=by
 obtain ⟨lo,hi⟩:=a
 unfold nd at h3
 split at h3
 · cases h3
 · rename_i h4
   unfold Rx.piece;rw [h];dsimp only;rw [hb,h2]
   show (if Rx.pk l q=125 then _ else Rx.other l q)=_
   rw [if_neg h4]
   unfold Rx.other at h3 ⊢
   split at h3<;>(obtain ⟨rfl,rfl⟩:=Res.bad.inj h3;rename_i h5;first | rw [if_pos h5] | rw [if_neg h5])
theorem piece_nd {a:Int × Int} {u:Unit} {z:Nat} (h:atm i=.ok n p) (hb:Rx.pk l p=123) (h2:Rx.brc l (p+1)=.ok a q) (h3:nd l q 125=.ok u z):Rx.piece l atm i=.ok (Rx.rep n a.1 a.2) z:=by
 obtain ⟨lo,hi⟩:=a
 unfold nd at h3
 split at h3
 · rename_i h4
   obtain ⟨-,rfl⟩:=Res.ok.inj h3
   unfold Rx.piece;rw [h];dsimp only;rw [hb,h2]
   show (if Rx.pk l q=125 then _ else Rx.other l q)=_
   rw [if_pos h4]
 · unfold Rx.other at h3;split at h3<;>cases h3
theorem piece_no (h:atm i=.ok n p) (h1:Rx.pk l p≠42) (h2:Rx.pk l p≠43) (h3:Rx.pk l p≠63) (h4:Rx.pk l p≠123):Rx.piece l atm i=.ok n p:=by
 unfold Rx.piece;rw [h];dsimp only;rw [if_neg h1,if_neg h2,if_neg h3,if_neg h4]
theorem piece_42 (h:atm i=.ok n p) (h1:Rx.pk l p=42):Rx.piece l atm i=.ok (Rx.rep n 0 (-1)) (p+1):=by
 unfold Rx.piece;rw [h];dsimp only;rw [h1];rfl
theorem piece_43 (h:atm i=.ok n p) (h1:Rx.pk l p=43):Rx.piece l atm i=.ok (Rx.rep n 1 (-1)) (p+1):=by
 unfold Rx.piece;rw [h];dsimp only;rw [h1];rfl
theorem piece_63 (h:atm i=.ok n p) (h1:Rx.pk l p=63):Rx.piece l atm i=.ok (Rx.rep n 0 1) (p+1):=by
 unfold Rx.piece;rw [h];dsimp only;rw [h1];rfl
end
theorem piece_c (s:ByteArray) {I:Int} {i:Nat} (op:Int) {atm:Nat→Res Node} (HA:Meth Tryd.prog 72 74 (rd s I op) [] (rdOut s op nodeV (atm i))) (F1:Fine s.data.toList i (atm i)) (hs:s.size≤1000):Meth Tryd.prog 66 74 (rd s I op) [] (rdOut s op nodeV (Rx.piece s.data.toList atm i)):=by
 have hl:s.data.toList.length=s.size:=by simp
 refine methO_of lay_ok (Tryd.call66) (Tryd.func66) rfl ?_;intro A E Q hE hf hQ hP
 cbv
 repeat' (first | (refine r_true hE rfl ?_;cbv) | (refine r_false hE rfl ?_;cbv) | (refine c_eql hE (fun h=>?_) (fun h=>?_)<;>first | (exfalso;omega) | cbv) | (refine c_neq hE (fun h=>?_) (fun h=>?_)<;>first | (exfalso;omega) | cbv) | (refine c_lss hE (fun h=>?_) (fun h=>?_)<;>first | (exfalso;omega) | cbv) | (refine c_leq hE (fun h=>?_) (fun h=>?_)<;>first | (exfalso;omega) | cbv) | (refine c_gtr hE (fun h=>?_) (fun h=>?_)<;>first | (exfalso;omega) | cbv) | (refine c_geq hE (fun h=>?_) (fun h=>?_)<;>first | (exfalso;omega) | cbv) | (refine c_seql hE (fun h=>?_) (fun h=>?_)<;>first | (exfalso;omega) | cbv) | (refine c_sneq hE (fun h=>?_) (fun h=>?_)<;>first | (exfalso;omega) | cbv) | (refine r_sin hE ?_ ?_ ?_;rotate_left 2;cbv) | (refine r_ssin hE ?_ ?_ ?_ ?_;rotate_left 3;cbv) | (refine use_draw hE lay_ok (by kernel_rfl) (by kernel_rfl) ?_;cbv) | (refine c_b hE (fun h=>?_) (fun h=>?_)<;>cbv))
 refine use_rn hE HA rfl rfl rfl rfl rfl (fine_ne F1) (fun n p J x hr hJ hx=>?_) (fun e p X hr hX=>?_)<;>cbv
 case refine_2=>exact hP _ _ _ rfl rfl (by rw [piece_bad hr];exact pan_eq hX)
 have hp:=fine_le F1 hr
 have P1:=peek_l s op hJ
 have g1:=e_inc hE hJ (by omega)
 have hin:=fun h=>pk_in (l:=s.data.toList) (i:=p) h
 obtain ⟨b,hb⟩:∃b,b=Rx.pk s.data.toList p:=⟨_,rfl⟩
 rw [←hb] at P1 hin
 refine use_meth hE P1 rfl rfl rfl rfl rfl ?_
 cbv
 refine c_eql hE (fun q1=>?_) (fun q1=>?_)<;>cbv
 · repeat' (first | (refine r_true hE rfl ?_;cbv) | (refine r_false hE rfl ?_;cbv) | (refine c_eql hE (fun h=>?_) (fun h=>?_)<;>first | (exfalso;omega) | cbv) | (refine c_neq hE (fun h=>?_) (fun h=>?_)<;>first | (exfalso;omega) | cbv) | (refine c_lss hE (fun h=>?_) (fun h=>?_)<;>first | (exfalso;omega) | cbv) | (refine c_leq hE (fun h=>?_) (fun h=>?_)<;>first | (exfalso;omega) | cbv) | (refine c_gtr hE (fun h=>?_) (fun h=>?_)<;>first | (exfalso;omega) | cbv) | (refine c_geq hE (fun h=>?_) (fun h=>?_)<;>first | (exfalso;omega) | cbv) | (refine c_seql hE (fun h=>?_) (fun h=>?_)<;>first | (exfalso;omega) | cbv) | (refine c_sneq hE (fun h=>?_) (fun h=>?_)<;>first | (exfalso;omega) | cbv) | (refine r_sin hE ?_ ?_ ?_;rotate_left 2;cbv) | (refine r_ssin hE ?_ ?_ ?_ ?_;rotate_left 3;cbv) | (refine use_draw hE lay_ok (by kernel_rfl) (by kernel_rfl) ?_;cbv) | (refine c_b hE (fun h=>?_) (fun h=>?_)<;>cbv))
   exact And.left (hQ _ _ _ _ _ rfl rfl rfl rfl (by rw [piece_42 hr (hb.symm.trans q1)];exact ret_eq (by rw [rep_v,←hx];rfl) g1))
 refine c_eql hE (fun q2=>?_) (fun q2=>?_)<;>cbv
 · repeat' (first | (refine r_true hE rfl ?_;cbv) | (refine r_false hE rfl ?_;cbv) | (refine c_eql hE (fun h=>?_) (fun h=>?_)<;>first | (exfalso;omega) | cbv) | (refine c_neq hE (fun h=>?_) (fun h=>?_)<;>first | (exfalso;omega) | cbv) | (refine c_lss hE (fun h=>?_) (fun h=>?_)<;>first | (exfalso;omega) | cbv) | (refine c_leq hE (fun h=>?_) (fun h=>?_)<;>first | (exfalso;omega) | cbv) | (refine c_gtr hE (fun h=>?_) (fun h=>?_)<;>first | (exfalso;omega) | cbv) | (refine c_geq hE (fun h=>?_) (fun h=>?_)<;>first | (exfalso;omega) | cbv) | (refine c_seql hE (fun h=>?_) (fun h=>?_)<;>first | (exfalso;omega) | cbv) | (refine c_sneq hE (fun h=>?_) (fun h=>?_)<;>first | (exfalso;omega) | cbv) | (refine r_sin hE ?_ ?_ ?_;rotate_left 2;cbv) | (refine r_ssin hE ?_ ?_ ?_ ?_;rotate_left 3;cbv) | (refine use_draw hE lay_ok (by kernel_rfl) (by kernel_rfl) ?_;cbv) | (refine c_b hE (fun h=>?_) (fun h=>?_)<;>cbv))
   exact And.left (hQ _ _ _ _ _ rfl rfl rfl rfl (by rw [piece_43 hr (hb.symm.trans q2)];exact ret_eq (by rw [rep_v,←hx];rfl) g1))
 refine c_eql hE (fun q3=>?_) (fun q3=>?_)<;>cbv
 · repeat' (first | (refine r_true hE rfl ?_;cbv) | (refine r_false hE rfl ?_;cbv) | (refine c_eql hE (fun h=>?_) (fun h=>?_)<;>first | (exfalso;omega) | cbv) | (refine c_neq hE (fun h=>?_) (fun h=>?_)<;>first | (exfalso;omega) | cbv) | (refine c_lss hE (fun h=>?_) (fun h=>?_)<;>first | (exfalso;omega) | cbv) | (refine c_leq hE (fun h=>?_) (fun h=>?_)<;>first | (exfalso;omega) | cbv) | (refine c_gtr hE (fun h=>?_) (fun h=>?_)<;>first | (exfalso;omega) | cbv) | (refine c_geq hE (fun h=>?_) (fun h=>?_)<;>first | (exfalso;omega) | cbv) | (refine c_seql hE (fun h=>?_) (fun h=>?_)<;>first | (exfalso;omega) | cbv) | (refine c_sneq hE (fun h=>?_) (fun h=>?_)<;>first | (exfalso;omega) | cbv) | (refine r_sin hE ?_ ?_ ?_;rotate_left 2;cbv) | (refine r_ssin hE ?_ ?_ ?_ ?_;rotate_left 3;cbv) | (refine use_draw hE lay_ok (by kernel_rfl) (by kernel_rfl) ?_;cbv) | (refine c_b hE (fun h=>?_) (fun h=>?_)<;>cbv))
   exact And.left (hQ _ _ _ _ _ rfl rfl rfl rfl (by rw [piece_63 hr (hb.symm.trans q3)];exact ret_eq (by rw [rep_v,←hx];rfl) g1))
 refine c_eql hE (fun q4=>?_) (fun q4=>?_)<;>cbv
 · have hlt:=hin (by omega)
   have h4:=hb.symm.trans q4
   have B1:=braces_c s op g1 (by omega) hs
   have F2:=fine_brc s.data.toList (p+1) (by omega)
   repeat' (first | (refine r_true hE rfl ?_;cbv) | (refine r_false hE rfl ?_;cbv) | (refine c_eql hE (fun h=>?_) (fun h=>?_)<;>first | (exfalso;omega) | cbv) | (refine c_neq hE (fun h=>?_) (fun h=>?_)<;>first | (exfalso;omega) | cbv) | (refine c_lss hE (fun h=>?_) (fun h=>?_)<;>first | (exfalso;omega) | cbv) | (refine c_leq hE (fun h=>?_) (fun h=>?_)<;>first | (exfalso;omega) | cbv) | (refine c_gtr hE (fun h=>?_) (fun h=>?_)<;>first | (exfalso;omega) | cbv) | (refine c_geq hE (fun h=>?_) (fun h=>?_)<;>first | (exfalso;omega) | cbv) | (refine c_seql hE (fun h=>?_) (fun h=>?_)<;>first | (exfalso;omega) | cbv) | (refine c_sneq hE (fun h=>?_) (fun h=>?_)<;>first | (exfalso;omega) | cbv) | (refine r_sin hE ?_ ?_ ?_;rotate_left 2;cbv) | (refine r_ssin hE ?_ ?_ ?_ ?_;rotate_left 3;cbv) | (refine use_draw hE lay_ok (by kernel_rfl) (by kernel_rfl) ?_;cbv) | (refine c_b hE (fun h=>?_) (fun h=>?_)<;>cbv))
   refine use_rd hE B1 rfl rfl rfl rfl rfl (fine_ne F2) (fun a q K hr2 hK=>?_) (fun e q X hr2 hX=>?_)<;>cbv
   case refine_2=>exact hP _ _ _ rfl rfl (by rw [piece_brc_bad hr h4 hr2];exact pan_eq hX)
   have hq:=fine_le F2 hr2
   have N1:=need_c s op (b:=125) hK (by omega) hs (by decide)
   have F3:=nd_ne s.data.toList q 125
   repeat' (first | (refine r_true hE rfl ?_;cbv) | (refine r_false hE rfl ?_;cbv) | (refine c_eql hE (fun h=>?_) (fun h=>?_)<;>first | (exfalso;omega) | cbv) | (refine c_neq hE (fun h=>?_) (fun h=>?_)<;>first | (exfalso;omega) | cbv) | (refine c_lss hE (fun h=>?_) (fun h=>?_)<;>first | (exfalso;omega) | cbv) | (refine c_leq hE (fun h=>?_) (fun h=>?_)<;>first | (exfalso;omega) | cbv) | (refine c_gtr hE (fun h=>?_) (fun h=>?_)<;>first | (exfalso;omega) | cbv) | (refine c_geq hE (fun h=>?_) (fun h=>?_)<;>first | (exfalso;omega) | cbv) | (refine c_seql hE (fun h=>?_) (fun h=>?_)<;>first | (exfalso;omega) | cbv) | (refine c_sneq hE (fun h=>?_) (fun h=>?_)<;>first | (exfalso;omega) | cbv) | (refine r_sin hE ?_ ?_ ?_;rotate_left 2;cbv) | (refine r_ssin hE ?_ ?_ ?_ ?_;rotate_left 3;cbv) | (refine use_draw hE lay_ok (by kernel_rfl) (by kernel_rfl) ?_;cbv) | (refine c_b hE (fun h=>?_) (fun h=>?_)<;>cbv))
   refine use_rd hE N1 rfl rfl rfl rfl rfl F3 (fun u z Z hr3 hZ=>?_) (fun e z X hr3 hX=>?_)<;>cbv
   case refine_2=>exact hP _ _ _ rfl rfl (by rw [piece_nd_bad hr h4 hr2 hr3];exact pan_eq hX)
   repeat' (first | (refine r_true hE rfl ?_;cbv) | (refine r_false hE rfl ?_;cbv) | (refine c_eql hE (fun h=>?_) (fun h=>?_)<;>first | (exfalso;omega) | cbv) | (refine c_neq hE (fun h=>?_) (fun h=>?_)<;>first | (exfalso;omega) | cbv) | (refine c_lss hE (fun h=>?_) (fun h=>?_)<;>first | (exfalso;omega) | cbv) | (refine c_leq hE (fun h=>?_) (fun h=>?_)<;>first | (exfalso;omega) | cbv) | (refine c_gtr hE (fun h=>?_) (fun h=>?_)<;>first | (exfalso;omega) | cbv) | (refine c_geq hE (fun h=>?_) (fun h=>?_)<;>first | (exfalso;omega) | cbv) | (refine c_seql hE (fun h=>?_) (fun h=>?_)<;>first | (exfalso;omega) | cbv) | (refine c_sneq hE (fun h=>?_) (fun h=>?_)<;>first | (exfalso;omega) | cbv) | (refine r_sin hE ?_ ?_ ?_;rotate_left 2;cbv) | (refine r_ssin hE ?_ ?_ ?_ ?_;rotate_left 3;cbv) | (refine use_draw hE lay_ok (by kernel_rfl) (by kernel_rfl) ?_;cbv) | (refine c_b hE (fun h=>?_) (fun h=>?_)<;>cbv))
   exact And.left (hQ _ _ _ _ _ rfl rfl rfl rfl (by rw [piece_nd hr h4 hr2 hr3];exact ret_eq (by rw [rep_v,←hx];rfl) hZ))
 · repeat' (first | (refine r_true hE rfl ?_;cbv) | (refine r_false hE rfl ?_;cbv) | (refine c_eql hE (fun h=>?_) (fun h=>?_)<;>first | (exfalso;omega) | cbv) | (refine c_neq hE (fun h=>?_) (fun h=>?_)<;>first | (exfalso;omega) | cbv) | (refine c_lss hE (fun h=>?_) (fun h=>?_)<;>first | (exfalso;omega) | cbv) | (refine c_leq hE (fun h=>?_) (fun h=>?_)<;>first | (exfalso;omega) | cbv) | (refine c_gtr hE (fun h=>?_) (fun h=>?_)<;>first | (exfalso;omega) | cbv) | (refine c_geq hE (fun h=>?_) (fun h=>?_)<;>first | (exfalso;omega) | cbv) | (refine c_seql hE (fun h=>?_) (fun h=>?_)<;>first | (exfalso;omega) | cbv) | (refine c_sneq hE (fun h=>?_) (fun h=>?_)<;>first | (exfalso;omega) | cbv) | (refine r_sin hE ?_ ?_ ?_;rotate_left 2;cbv) | (refine r_ssin hE ?_ ?_ ?_ ?_;rotate_left 3;cbv) | (refine use_draw hE lay_ok (by kernel_rfl) (by kernel_rfl) ?_;cbv) | (refine c_b hE (fun h=>?_) (fun h=>?_)<;>cbv))
   exact And.left (hQ _ _ _ _ _ rfl rfl rfl rfl (by rw [piece_no hr (hb▸q1) (hb▸q2) (hb▸q3) (hb▸q4)];exact ret_eq (by show _=nsV (ns n);rw [←hx];rfl) hJ))
end Rd
end Go.Proofs.YtbpihhelojjedaaDoor
