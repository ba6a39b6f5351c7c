/- Texts that the proof leans on. -/
import Derived.Test.YtbpihhelojjedaaDoorK319
import Derived.Defers
set_option linter.unusedVariables false
set_option linter.unusedSimpArgs false
set_option maxRecDepth 100000
set_option maxHeartbeats 4000000
namespace Go.Proofs.YtbpihhelojjedaaDoor
open Go Go.RowKit
open Ab
namespace Rd
def AtomC (s:ByteArray) (op:Int) (atm:Nat→Res Node):Prop:=
 ∀(i:Nat) (I:Int),I=((i:Nat):Int)→i≤s.size→Meth Tryd.prog 72 74 (rd s I op) [] (rdOut s op nodeV (atm i))
section
variable {l:List UInt8} {atm:Nat→Res Node}
theorem pieces_end {f i:Nat} {ms:List Node} (h:Rx.pk l i=-1∨Rx.pk l i=124∨Rx.pk l i=41):Rx.pieces l atm (f+1) ms i=.ok ms i:=by
 conv=>lhs;unfold Rx.pieces
 exact if_pos h
theorem pieces_go {f i p:Nat} {ms:List Node} {n:Node} (h:¬(Rx.pk l i=-1∨Rx.pk l i=124∨Rx.pk l i=41)) (hr:Rx.piece l atm i=.ok n p):Rx.pieces l atm (f+1) ms i=Rx.pieces l atm f (ms++[n]) p:=by
 conv=>lhs;unfold Rx.pieces
 rw [if_neg h,hr]
theorem pieces_bad {f i p:Nat} {ms:List Node} {e:Int} (h:¬(Rx.pk l i=-1∨Rx.pk l i=124∨Rx.pk l i=41)) (hr:Rx.piece l atm i=.bad e p):Rx.pieces l atm (f+1) ms i=.bad e p:=by
 conv=>lhs;unfold Rx.pieces
 rw [if_neg h,hr]
theorem cat_ok {i p:Nat} {ms:List Node} (h:Rx.pieces l atm (l.length+1) [] i=.ok ms p):Rx.cat l atm i=.ok (Rx.join 2 ms) p:=by unfold Rx.cat;rw [h]
theorem cat_bad {i p:Nat} {e:Int} (h:Rx.pieces l atm (l.length+1) [] i=.bad e p):Rx.cat l atm i=.bad e p:=by unfold Rx.cat;rw [h]
end
def catI (s:ByteArray) (atm:Nat→Res Node) (i:Nat) (T:Res (List Node)) (g:List Node × Nat × Int):Prop:=
 g.2.2=((g.2.1:Nat):Int)∧i≤g.2.1∧g.2.1≤s.size∧Node.sizes g.1≤2*(g.2.1-i)∧∃f,s.data.toList.length<g.2.1+f∧Rx.pieces s.data.toList atm f g.1 g.2.1=T
theorem cat_c (s:ByteArray) {I:Int} {i:Nat} (op:Int) {atm:Nat→Res Node} (HA:AtomC s op atm) (hfn:∀i,i≤s.data.toList.length→Fine s.data.toList i (atm i)) (hln:Rx.Lean2 s.data.toList atm) (hI:I=i) (hi:i≤s.size) (hs:s.size≤1000):Meth Tryd.prog 55 74 (rd s I op) [] (rdOut s op nodeV (Rx.cat s.data.toList atm i)):=by
 have hl:s.data.toList.length=s.size:=by simp
 obtain ⟨T,hT⟩:∃T,T=Rx.pieces s.data.toList atm (s.data.toList.length+1) [] i:=⟨_,rfl⟩
 have sb:=fun e p (h:T=.bad e p)=>cat_bad (hT.symm.trans h)
 have so:=fun ms p (h:T=.ok ms p)=>cat_ok (hT.symm.trans h)
 obtain ⟨O,hO⟩:∃O:List Node→Ab.Rows,O=nodeRows:=⟨_,rfl⟩
 have hO0:O []=[]:=by rw [hO];unfold nodeRows;rfl
 refine methO_of lay_ok (Tryd.call55) (Tryd.func55) rfl ?_;intro A E Q hE hf hQ hP
 cbv
 repeat' (first | (refine r_true hE rfl ?_;cbv) | (refine r_false hE rfl ?_;cbv) | (refine c_eql hE (fun h=>?_) (fun h=>?_)<;>first | (exfalso;omega) | cbv) | (refine c_neq hE (fun h=>?_) (fun h=>?_)<;>first | (exfalso;omega) | cbv) | (refine c_lss hE (fun h=>?_) (fun h=>?_)<;>first | (exfalso;omega) | cbv) | (refine c_leq hE (fun h=>?_) (fun h=>?_)<;>first | (exfalso;omega) | cbv) | (refine c_gtr hE (fun h=>?_) (fun h=>?_)<;>first | (exfalso;omega) | cbv) | (refine c_geq hE (fun h=>?_) (fun h=>?_)<;>first | (exfalso;omega) | cbv) | (refine c_seql hE (fun h=>?_) (fun h=>?_)<;>first | (exfalso;omega) | cbv) | (refine c_sneq hE (fun h=>?_) (fun h=>?_)<;>first | (exfalso;omega) | cbv) | (refine r_sin hE ?_ ?_ ?_;rotate_left 2;cbv) | (refine r_ssin hE ?_ ?_ ?_ ?_;rotate_left 3;cbv) | (refine use_draw hE lay_ok (by kernel_rfl) (by kernel_rfl) ?_;cbv) | (refine c_b hE (fun h=>?_) (fun h=>?_)<;>cbv))
 refine use_for hE lay_ok 2 (fun g:List Node × Nat × Int=>[(3,.lst 2)]) (fun g=>[(0,.box 74 (rd s g.2.2 op)),(2,.list 35 8 (O g.1))]) (catI s atm i T) (fun g=>s.size-g.2.1) ([],i,I) ⟨hI,Nat.le_refl _,hi,by simp [Node.sizes_nil],s.data.toList.length+1,by show _<i+_;omega,hT.symm⟩ ?_ ?_
 · cbv
   refine ⟨⟨.inr trivial,trivial⟩,⟨?_,trivial⟩,trivial⟩
   show (match Row.list 35 8 (O []) with | Row.list ty es []=>True | x=>False)
   rw [hO0];trivial
 rintro ⟨ms,p,J⟩ ⟨hJ,hip,hp,hsz,f,hf1,hf2⟩ Q' hN hR hX
 have hJ:J=((p:Nat):Int):=hJ
 have hip:i≤p:=hip
 have hp:p≤s.size:=hp
 have hsz:Node.sizes ms≤2*(p-i):=hsz
 have hf1:s.data.toList.length<p+f:=hf1
 have hf2:Rx.pieces s.data.toList atm f ms p=T:=hf2
 have hml:=Node.length_le_sizes ms
 have hOl:(O ms).length≤1000000:=by rw [hO,nodeRows_len];omega
 obtain ⟨f,rfl⟩:∃f',f=f'+1:=⟨f-1,by omega⟩
 have P1:=peek_l s op hJ
 have C1:=piece_c s op (HA p J hJ hp) (hfn p (by omega)) hs
 have F1:=fine_piece s.data.toList atm p (hfn p (by omega))
 have J1:=join_c 2 ms (by omega)
 obtain ⟨b,hb⟩:∃b,b=Rx.pk s.data.toList p:=⟨_,rfl⟩
 rw [←hb] at P1
 rw [←hO] at J1
 have hOs:∀n,O (ms++[n])=O ms++[nsR (ns n)]:=fun n=>by rw [hO,nodeRows_app,←nodeRow_ns];conv=>lhs;rhs;unfold nodeRows;unfold nodeRows
 by_cases q:b=-1∨b=124∨b=41
 · have hd:=pieces_end (atm:=atm) (f:=f) (ms:=ms) (by rw [←hb];exact q)
   cbv
   repeat' (first | (refine r_true hE rfl ?_;cbv) | (refine r_false hE rfl ?_;cbv) | (refine use_meth hE P1 rfl rfl rfl rfl rfl ?_;cbv) | (refine use_gs hE (sh:=nsV) 2 J1 rfl rfl (hf _ (by decide)) rfl rfl fun x hx=>?_;cbv) | (refine c_eql hE (fun h=>?_) (fun h=>?_)<;>first | (exfalso;omega) | cbv) | (refine c_neq hE (fun h=>?_) (fun h=>?_)<;>first | (exfalso;omega) | cbv) | (refine c_lss hE (fun h=>?_) (fun h=>?_)<;>first | (exfalso;omega) | cbv) | (refine c_leq hE (fun h=>?_) (fun h=>?_)<;>first | (exfalso;omega) | cbv) | (refine c_gtr hE (fun h=>?_) (fun h=>?_)<;>first | (exfalso;omega) | cbv) | (refine c_geq hE (fun h=>?_) (fun h=>?_)<;>first | (exfalso;omega) | cbv) | (refine c_seql hE (fun h=>?_) (fun h=>?_)<;>first | (exfalso;omega) | cbv) | (refine c_sneq hE (fun h=>?_) (fun h=>?_)<;>first | (exfalso;omega) | cbv) | (refine r_sin hE ?_ ?_ ?_;rotate_left 2;cbv) | (refine r_ssin hE ?_ ?_ ?_ ?_;rotate_left 3;cbv) | (refine use_draw hE lay_ok (by kernel_rfl) (by kernel_rfl) ?_;cbv) | (refine c_b hE (fun h=>?_) (fun h=>?_)<;>cbv))
   all_goals (refine hR _ ?_;exact And.left (hQ _ _ _ _ _ rfl rfl rfl rfl (by rw [so _ _ (hf2.symm.trans hd)];exact ret_eq (by show _=nsV (ns (Rx.join 2 ms));rw [←hx];rfl) hJ)))
 · have nq:¬(Rx.pk s.data.toList p=-1∨Rx.pk s.data.toList p=124∨Rx.pk s.data.toList p=41):=by rw [←hb];exact q
   have sz:=Rx.size_piece hln hfn
   cbv
   repeat' (first | (refine r_true hE rfl ?_;cbv) | (refine r_false hE rfl ?_;cbv) | (refine use_meth hE P1 rfl rfl rfl rfl rfl ?_;cbv) | (refine c_eql hE (fun h=>?_) (fun h=>?_)<;>first | (exfalso;omega) | cbv) | (refine c_neq hE (fun h=>?_) (fun h=>?_)<;>first | (exfalso;omega) | cbv) | (refine c_lss hE (fun h=>?_) (fun h=>?_)<;>first | (exfalso;omega) | cbv) | (refine c_leq hE (fun h=>?_) (fun h=>?_)<;>first | (exfalso;omega) | cbv) | (refine c_gtr hE (fun h=>?_) (fun h=>?_)<;>first | (exfalso;omega) | cbv) | (refine c_geq hE (fun h=>?_) (fun h=>?_)<;>first | (exfalso;omega) | cbv) | (refine c_seql hE (fun h=>?_) (fun h=>?_)<;>first | (exfalso;omega) | cbv) | (refine c_sneq hE (fun h=>?_) (fun h=>?_)<;>first | (exfalso;omega) | cbv) | (refine r_sin hE ?_ ?_ ?_;rotate_left 2;cbv) | (refine r_ssin hE ?_ ?_ ?_ ?_;rotate_left 3;cbv) | (refine use_draw hE lay_ok (by kernel_rfl) (by kernel_rfl) ?_;cbv) | (refine c_b hE (fun h=>?_) (fun h=>?_)<;>cbv))
   refine use_rn hE C1 rfl rfl rfl rfl rfl (fine_ne F1) (fun n q K x hr hK hx=>?_) (fun e q X hr hX=>?_)<;>cbv
   case refine_2=>exact hP _ _ _ rfl rfl (by rw [sb _ _ (hf2.symm.trans (pieces_bad nq hr))];exact pan_eq hX)
   have hq:=fine_le F1 hr
   have h1:=sz p n q (by omega) hr
   have st:E.lapp (O ms) [nsR x]=O (ms++[n]):=by rw [e_app hE,hOs,hx]
   refine And.intro (hf _ (by decide)) (r_room hE ?_ ?_ ?_ ?_)
   · simp
   · show (O ms).length+1≤_;omega
   · decide
   cbv
   refine hN _ (ms++[n],q,K) ⟨hK,by show i≤q;omega,by show q≤s.size;omega,?_,f,by show _<q+f;omega,(pieces_go nq hr).symm.trans hf2⟩ ?_ ?_
   · show Node.sizes (ms++[n])≤2*(q-i)
     rw [Node.sizes_append,Node.sizes_cons,Node.sizes_nil];omega
   · show s.size-q<s.size-p;omega
   · cbv
     exact ⟨⟨st,trivial⟩,trivial⟩
section
variable {l:List UInt8} {atm:Nat→Res Node}
theorem cats_end {f i:Nat} {ms:List Node} (h:¬ Rx.pk l i=124):Rx.cats l atm (f+1) ms i=.ok ms i:=by
 conv=>lhs;unfold Rx.cats
 exact if_neg h
theorem cats_go {f i p:Nat} {ms:List Node} {n:Node} (h:Rx.pk l i=124) (hr:Rx.cat l atm (i+1)=.ok n p):Rx.cats l atm (f+1) ms i=Rx.cats l atm f (ms++[n]) p:=by
 conv=>lhs;unfold Rx.cats
 rw [if_pos h,hr]
theorem cats_bad {f i p:Nat} {ms:List Node} {e:Int} (h:Rx.pk l i=124) (hr:Rx.cat l atm (i+1)=.bad e p):Rx.cats l atm (f+1) ms i=.bad e p:=by
 conv=>lhs;unfold Rx.cats
 rw [if_pos h,hr]
theorem alt_bad {i p:Nat} {e:Int} (h:Rx.cat l atm i=.bad e p):Rx.alt l atm i=.bad e p:=by unfold Rx.alt;rw [h]
theorem alt_bad2 {i p q:Nat} {n:Node} {e:Int} (h:Rx.cat l atm i=.ok n p) (h2:Rx.cats l atm (l.length+1) [n] p=.bad e q):Rx.alt l atm i=.bad e q:=by unfold Rx.alt;rw [h];dsimp only;rw [h2]
theorem alt_one {i p q:Nat} {n m:Node} (h:Rx.cat l atm i=.ok n p) (h2:Rx.cats l atm (l.length+1) [n] p=.ok [m] q):Rx.alt l atm i=.ok m q:=by unfold Rx.alt;rw [h];dsimp only;rw [h2]
theorem alt_many {i p q:Nat} {n:Node} {ms:List Node} (h:Rx.cat l atm i=.ok n p) (h2:Rx.cats l atm (l.length+1) [n] p=.ok ms q) (hn:ms.length≠1):Rx.alt l atm i=.ok (Rx.join 3 ms) q:=by
 unfold Rx.alt;rw [h];dsimp only;rw [h2]
 split
 · rename_i e;obtain ⟨e,-⟩:=Res.ok.inj e;subst e;exact absurd rfl hn
 · rename_i e;obtain ⟨rfl,rfl⟩:=Res.ok.inj e;rfl
 · rename_i e;cases e
 · rename_i e;cases e
end
def altI (s:ByteArray) (atm:Nat→Res Node) (i:Nat) (T:Res (List Node)) (g:List Node × Nat × Int):Prop:=
 g.2.2=((g.2.1:Nat):Int)∧i≤g.2.1∧g.2.1≤s.size∧Node.sizes g.1≤2*(g.2.1-i)+1∧∃f,s.data.toList.length<g.2.1+f∧Rx.cats s.data.toList atm f g.1 g.2.1=T
theorem alt_c (s:ByteArray) {I:Int} {i:Nat} (op:Int) {atm:Nat→Res Node} (HA:AtomC s op atm) (hfn:∀i,i≤s.data.toList.length→Fine s.data.toList i (atm i)) (hln:Rx.Lean2 s.data.toList atm) (hI:I=i) (hi:i≤s.size) (hs:s.size≤1000):Meth Tryd.prog 42 74 (rd s I op) [] (rdOut s op nodeV (Rx.alt s.data.toList atm i)):=by
 have hl:s.data.toList.length=s.size:=by simp
 have C0:=cat_c s op HA hfn hln hI hi hs
 have F0:=fine_cat s.data.toList atm hfn i (by omega)
 obtain ⟨O,hO⟩:∃O:List Node→Ab.Rows,O=nodeRows:=⟨_,rfl⟩
 refine methO_of lay_ok (Tryd.call42) (Tryd.func42) rfl ?_;intro A E Q hE hf hQ hP
 cbv
 refine use_rn hE C0 rfl rfl rfl rfl rfl (fine0_ne F0) (fun n0 p0 J0 x0 hr0 hJ0 hx0=>?_) (fun e p X hr hX=>?_)<;>cbv
 case refine_2=>exact hP _ _ _ rfl rfl (by rw [alt_bad hr];exact pan_eq hX)
 have hp0:=fine0_le F0 hr0
 have hz0:=Rx.size_cat hln hfn (by omega) hr0
 obtain ⟨T,hT⟩:∃T,T=Rx.cats s.data.toList atm (s.data.toList.length+1) [n0] p0:=⟨_,rfl⟩
 have sb:=fun e p (h:T=.bad e p)=>alt_bad2 hr0 (hT.symm.trans h)
 have s1:=fun m p (h:T=.ok [m] p)=>alt_one hr0 (hT.symm.trans h)
 have s2:=fun ms p (h:T=.ok ms p)=>alt_many hr0 (hT.symm.trans h)
 have hO0:O [n0]=[nsR x0]:=by rw [hO,hx0,←nodeRow_ns];unfold nodeRows;unfold nodeRows;rfl
 repeat' (first | (refine r_true hE rfl ?_;cbv) | (refine r_false hE rfl ?_;cbv) | (refine c_eql hE (fun h=>?_) (fun h=>?_)<;>first | (exfalso;omega) | cbv) | (refine c_neq hE (fun h=>?_) (fun h=>?_)<;>first | (exfalso;omega) | cbv) | (refine c_lss hE (fun h=>?_) (fun h=>?_)<;>first | (exfalso;omega) | cbv) | (refine c_leq hE (fun h=>?_) (fun h=>?_)<;>first | (exfalso;omega) | cbv) | (refine c_gtr hE (fun h=>?_) (fun h=>?_)<;>first | (exfalso;omega) | cbv) | (refine c_geq hE (fun h=>?_) (fun h=>?_)<;>first | (exfalso;omega) | cbv) | (refine c_seql hE (fun h=>?_) (fun h=>?_)<;>first | (exfalso;omega) | cbv) | (refine c_sneq hE (fun h=>?_) (fun h=>?_)<;>first | (exfalso;omega) | cbv) | (refine r_sin hE ?_ ?_ ?_;rotate_left 2;cbv) | (refine r_ssin hE ?_ ?_ ?_ ?_;rotate_left 3;cbv) | (refine use_draw hE lay_ok (by kernel_rfl) (by kernel_rfl) ?_;cbv) | (refine c_b hE (fun h=>?_) (fun h=>?_)<;>cbv))
 refine use_for hE lay_ok 2 (fun g:List Node × Nat × Int=>[(3,.lst 2)]) (fun g=>[(0,.box 74 (rd s g.2.2 op)),(2,.list 35 8 (O g.1))]) (altI s atm i T) (fun g=>s.size-g.2.1) ([n0],p0,J0) ⟨hJ0,hp0.1,by show p0≤s.size;omega,by show Node.sizes [n0]≤2*(p0-i)+1;rw [Node.sizes_cons,Node.sizes_nil];omega,s.data.toList.length+1,by show _<p0+_;omega,hT.symm⟩ ?_ ?_
 · cbv
   exact ⟨⟨hO0.symm,trivial⟩,trivial⟩
 rintro ⟨ms,p,J⟩ ⟨hJ,hip,hp,hsz,f,hf1,hf2⟩ Q' hN hR hX
 have hJ:J=((p:Nat):Int):=hJ
 have hip:i≤p:=hip
 have hp:p≤s.size:=hp
 have hsz:Node.sizes ms≤2*(p-i)+1:=hsz
 have hf1:s.data.toList.length<p+f:=hf1
 have hf2:Rx.cats s.data.toList atm f ms p=T:=hf2
 have hml:=Node.length_le_sizes ms
 have hOl:(O ms).length=ms.length:=by rw [hO,nodeRows_len]
 obtain ⟨f,rfl⟩:∃f',f=f'+1:=⟨f-1,by omega⟩
 have P1:=peek_l s op hJ
 have J1:=join_c 3 ms (by omega)
 have hin:=fun h=>pk_in (l:=s.data.toList) (i:=p) h
 obtain ⟨b,hb⟩:∃b,b=Rx.pk s.data.toList p:=⟨_,rfl⟩
 rw [←hb] at P1 hin
 rw [←hO] at J1
 have hOs:∀n,O (ms++[n])=O ms++[nsR (ns n)]:=fun n=>by rw [hO,nodeRows_app,←nodeRow_ns];conv=>lhs;rhs;unfold nodeRows;unfold nodeRows
 by_cases q:b=124
 · have hlt:=hin (by omega)
   have g1:=e_inc hE hJ (by omega)
   have C1:=cat_c s op HA hfn hln g1 (by omega) hs
   have F1:=fine_cat s.data.toList atm hfn (p+1) (by omega)
   have h4:=hb.symm.trans q
   have sz:=fun {n q}=>Rx.size_cat (i:=p+1) (p:=q) (n:=n) hln hfn (by omega)
   cbv
   repeat' (first | (refine r_true hE rfl ?_;cbv) | (refine r_false hE rfl ?_;cbv) | (refine use_meth hE P1 rfl rfl rfl rfl rfl ?_;cbv) | (refine c_eql hE (fun h=>?_) (fun h=>?_)<;>first | (exfalso;omega) | cbv) | (refine c_neq hE (fun h=>?_) (fun h=>?_)<;>first | (exfalso;omega) | cbv) | (refine c_lss hE (fun h=>?_) (fun h=>?_)<;>first | (exfalso;omega) | cbv) | (refine c_leq hE (fun h=>?_) (fun h=>?_)<;>first | (exfalso;omega) | cbv) | (refine c_gtr hE (fun h=>?_) (fun h=>?_)<;>first | (exfalso;omega) | cbv) | (refine c_geq hE (fun h=>?_) (fun h=>?_)<;>first | (exfalso;omega) | cbv) | (refine c_seql hE (fun h=>?_) (fun h=>?_)<;>first | (exfalso;omega) | cbv) | (refine c_sneq hE (fun h=>?_) (fun h=>?_)<;>first | (exfalso;omega) | cbv) | (refine r_sin hE ?_ ?_ ?_;rotate_left 2;cbv) | (refine r_ssin hE ?_ ?_ ?_ ?_;rotate_left 3;cbv) | (refine use_draw hE lay_ok (by kernel_rfl) (by kernel_rfl) ?_;cbv) | (refine c_b hE (fun h=>?_) (fun h=>?_)<;>cbv))
   refine use_rn hE C1 rfl rfl rfl rfl rfl (fine0_ne F1) (fun n q K x hr hK hx=>?_) (fun e q X hr hX=>?_)<;>cbv
   case refine_2=>exact hP _ _ _ rfl rfl (by rw [sb _ _ (hf2.symm.trans (cats_bad h4 hr))];exact pan_eq hX)
   have hq:=fine0_le F1 hr
   have h1:=sz hr
   have st:E.lapp (O ms) [nsR x]=O (ms++[n]):=by rw [e_app hE,hOs,hx]
   refine And.intro (hf _ (by decide)) (r_room hE ?_ ?_ ?_ ?_)
   · simp
   · show (O ms).length+1≤_;omega
   · decide
   cbv
   refine hN _ (ms++[n],q,K) ⟨hK,by show i≤q;omega,by show q≤s.size;omega,?_,f,by show _<q+f;omega,(cats_go h4 hr).symm.trans hf2⟩ ?_ ?_
   · show Node.sizes (ms++[n])≤2*(q-i)+1
     rw [Node.sizes_append,Node.sizes_cons,Node.sizes_nil];omega
   · show s.size-q<s.size-p;omega
   · cbv
     exact ⟨⟨st,trivial⟩,trivial⟩
 · have hd:=cats_end (atm:=atm) (f:=f) (ms:=ms) (by rw [←hb];exact q)
   have eT:=hf2.symm.trans hd
   have eL:=e_llen hE (O ms)
   rw [hOl] at eL
   cbv
   repeat' (first | (refine r_true hE rfl ?_;cbv) | (refine r_false hE rfl ?_;cbv) | (refine use_meth hE P1 rfl rfl rfl rfl rfl ?_;cbv) | (refine c_eql hE (fun h=>?_) (fun h=>?_)<;>first | (exfalso;omega) | cbv) | (refine c_neq hE (fun h=>?_) (fun h=>?_)<;>first | (exfalso;omega) | cbv) | (refine c_lss hE (fun h=>?_) (fun h=>?_)<;>first | (exfalso;omega) | cbv) | (refine c_leq hE (fun h=>?_) (fun h=>?_)<;>first | (exfalso;omega) | cbv) | (refine c_gtr hE (fun h=>?_) (fun h=>?_)<;>first | (exfalso;omega) | cbv) | (refine c_geq hE (fun h=>?_) (fun h=>?_)<;>first | (exfalso;omega) | cbv) | (refine c_seql hE (fun h=>?_) (fun h=>?_)<;>first | (exfalso;omega) | cbv) | (refine c_sneq hE (fun h=>?_) (fun h=>?_)<;>first | (exfalso;omega) | cbv) | (refine r_sin hE ?_ ?_ ?_;rotate_left 2;cbv) | (refine r_ssin hE ?_ ?_ ?_ ?_;rotate_left 3;cbv) | (refine use_draw hE lay_ok (by kernel_rfl) (by kernel_rfl) ?_;cbv) | (refine c_b hE (fun h=>?_) (fun h=>?_)<;>cbv))
   refine hX _ _ ?_
   cbv
   refine c_eql hE (fun h=>?_) (fun h=>?_)<;>cbv
   · have h1:E.llen (O ms)=1:=h
     rw [eL] at h1
     obtain ⟨m,rfl⟩:∃m,ms=[m]:=List.length_eq_one_iff.1 (by exact_mod_cast h1)
     obtain ⟨n,hn⟩:∃n,n=ns m:=⟨_,rfl⟩
     have hat:(O [m])[(0:Int).toNat]?=some (nsR n):=by rw [hO,hn,←nodeRow_ns];unfold nodeRows;rfl
     refine r_row hE (by decide) hat ?_
     cbv
     refine r_row hE (by decide) hat ?_
     cbv
     exact And.left (hQ _ _ _ _ _ rfl rfl rfl rfl (by rw [s1 _ _ eT];exact ret_eq (by show _=nsV (ns m);rw [←hn];rfl) hJ))
   · have h1:¬ E.llen (O ms)=1:=h
     rw [eL] at h1
     refine use_gs hE (sh:=nsV) 2 J1 rfl rfl (hf _ (by decide)) rfl rfl fun x hx=>?_
     cbv
     exact And.left (hQ _ _ _ _ _ rfl rfl rfl rfl (by rw [s2 _ _ eT (fun e=>h1 (by rw [e];rfl))];exact ret_eq (by show _=nsV (ns (Rx.join 3 ms));rw [←hx];rfl) hJ))
end Rd
end Go.Proofs.YtbpihhelojjedaaDoor
namespace Go.Proofs.YtbpihhelojjedaaDoor
open Go Go.RowKit
open Ab
namespace Rd
theorem ret_eqO {α:Type} {s:ByteArray} {op:Int} {sh:α→V} {a:α} {p:Nat} {v:V} {J O:Int} (hv:nrm v=sh a) (hJ:J=(p:Int)) (hO:O=op):rdOut s op sh (.ok a p)=.ret (nrm v) [fS s,fI .i64 J,fI .i64 O]:=by subst hO;exact ret_eq hv hJ
theorem wrong_iff {b:Int}:Rx.wrongAtom b=true↔b=-1∨b=41∨b=93∨b=123∨b=125∨b=124∨b=42∨b=43∨b=63:=by
 unfold Rx.wrongAtom;simp only [List.contains_eq_mem,List.mem_cons,List.not_mem_nil,or_false,decide_eq_true_eq]
section
variable {l:List UInt8} {d i p q:Nat} {n:Node} {e:Int} {S:CSet}
theorem atom_wrong (h:Rx.wrongAtom (Rx.pk l i)=true):Rx.atom l d i=Rx.other l i:=by unfold Rx.atom;rw [if_pos h]
theorem atom_0 (h1:¬ Rx.wrongAtom (Rx.pk l i)=true) (h:Rx.pk l i=40):Rx.atom l 0 i=.bad 3 i:=by unfold Rx.atom;rw [if_neg h1,if_pos h]
theorem atom_altbad (h1:¬ Rx.wrongAtom (Rx.pk l i)=true) (h:Rx.pk l i=40) (h2:Rx.alt l (Rx.atom l d) (i+1)=.bad e p):Rx.atom l (d+1) i=.bad e p:=by unfold Rx.atom;rw [if_neg h1,if_pos h];dsimp only;rw [h2]
theorem atom_ndbad (h1:¬ Rx.wrongAtom (Rx.pk l i)=true) (h:Rx.pk l i=40) (h2:Rx.alt l (Rx.atom l d) (i+1)=.ok n p) (h3:nd l p 41=.bad e q):Rx.atom l (d+1) i=.bad e q:=by
 unfold Rx.atom;rw [if_neg h1,if_pos h];dsimp only;rw [h2];dsimp only
 unfold nd at h3
 split at h3
 · cases h3
 · rename_i h4
   rw [if_neg h4]
   unfold Rx.other at h3 ⊢
   split at h3<;>(obtain ⟨rfl,rfl⟩:=Res.bad.inj h3;rename_i h5;first | rw [if_pos h5] | rw [if_neg h5])
theorem atom_nd {u:Unit} (h1:¬ Rx.wrongAtom (Rx.pk l i)=true) (h:Rx.pk l i=40) (h2:Rx.alt l (Rx.atom l d) (i+1)=.ok n p) (h3:nd l p 41=.ok u q):Rx.atom l (d+1) i=.ok n q:=by
 unfold Rx.atom;rw [if_neg h1,if_pos h];dsimp only;rw [h2];dsimp only
 unfold nd at h3
 split at h3
 · rename_i h4;obtain ⟨-,rfl⟩:=Res.ok.inj h3;rw [if_pos h4]
 · unfold Rx.other at h3;split at h3<;>cases h3
theorem atom_46 (h1:¬ Rx.wrongAtom (Rx.pk l i)=true) (h:Rx.pk l i=46):Rx.atom l d i=.ok (.mk 1 (CSet.between 0 255) [] 0 0) (i+1):=by unfold Rx.atom;rw [if_neg h1,if_neg (by omega),if_pos h]
theorem atom_clsbad (h1:¬ Rx.wrongAtom (Rx.pk l i)=true) (h:Rx.pk l i=91) (h2:Rx.cls l (i+1)=.bad e p):Rx.atom l d i=.bad e p:=by unfold Rx.atom;rw [if_neg h1,if_neg (by omega),if_neg (by omega),if_pos h,h2]
theorem atom_cls (h1:¬ Rx.wrongAtom (Rx.pk l i)=true) (h:Rx.pk l i=91) (h2:Rx.cls l (i+1)=.ok S p):Rx.atom l d i=.ok (.mk 1 S [] 0 0) p:=by unfold Rx.atom;rw [if_neg h1,if_neg (by omega),if_neg (by omega),if_pos h,h2]
theorem atom_escbad (h1:¬ Rx.wrongAtom (Rx.pk l i)=true) (h:Rx.pk l i=92) (h2:Rx.esc l i=.bad e p):Rx.atom l d i=.bad e p:=by unfold Rx.atom;rw [if_neg h1,if_neg (by omega),if_neg (by omega),if_neg (by omega),if_pos h,h2]
theorem atom_esc {a:CSet × Bool} (h1:¬ Rx.wrongAtom (Rx.pk l i)=true) (h:Rx.pk l i=92) (h2:Rx.esc l i=.ok a p):Rx.atom l d i=.ok (.mk 1 a.1 [] 0 0) p:=by
 obtain ⟨S,m⟩:=a;unfold Rx.atom;rw [if_neg h1,if_neg (by omega),if_neg (by omega),if_neg (by omega),if_pos h,h2]
theorem atom_else (h1:¬ Rx.wrongAtom (Rx.pk l i)=true) (h2:Rx.pk l i≠40) (h3:Rx.pk l i≠46) (h4:Rx.pk l i≠91) (h5:Rx.pk l i≠92):Rx.atom l d i=.ok (.mk 1 (Rx.one (Rx.pk l i)) [] 0 0) (i+1):=by unfold Rx.atom;rw [if_neg h1,if_neg h2,if_neg h3,if_neg h4,if_neg h5]
end
theorem leaf_v (S:CSet):nodeV (.mk 1 S [] 0 0)=nsV ⟨1,S,[],0,0⟩:=by unfold nodeV ns;show nsV ⟨1,S,nodeRows [],0,0⟩=_;unfold nodeRows;rfl
theorem atom_step (s:ByteArray) (hs:s.size≤1000) (d:Nat) (op:Int) (hop:op=16-(d:Int)) (hd:d≤16) (H:∀d',d=d'+1→∀op',op'=16-(d':Int)→AtomC s op' (Rx.atom s.data.toList d')):AtomC s op (Rx.atom s.data.toList d):=by
 have hl:s.data.toList.length=s.size:=by simp
 intro i I hI hi
 have hbd:=pkb s.data.toList i
 have hin:=fun h=>pk_in (l:=s.data.toList) (i:=i) h
 have P1:=peek_l s op hI
 have W1:=wrong_c s op nodeV hI
 have O1:=other_bad (α:=Node) s.data.toList i
 have wi:=wrong_iff (b:=Rx.pk s.data.toList i)
 obtain ⟨b,hb⟩:∃b,b=Rx.pk s.data.toList i:=⟨_,rfl⟩
 by_cases q1:Rx.wrongAtom (Rx.pk s.data.toList i)=true
 · have sp:=atom_wrong (d:=d) q1
   have q:=wi.1 q1
   rw [←hb] at P1 q
   refine methO_of lay_ok (Tryd.call72) (Tryd.func72) rfl ?_;intro A E Q hE hf hQ hP
   generalize (Rx.other s.data.toList i:Res Node)=r at *
   cbv
   repeat' (first | (refine r_true hE rfl ?_;cbv) | (refine r_false hE rfl ?_;cbv) | (refine use_meth hE P1 rfl rfl rfl rfl rfl ?_;cbv) | (refine use_bad hE W1 rfl rfl rfl rfl rfl O1 (fun e p X hr hX=>?_);cbv) | (refine c_eql hE (fun h=>?_) (fun h=>?_)<;>first | (exfalso;omega) | cbv) | (refine c_neq hE (fun h=>?_) (fun h=>?_)<;>first | (exfalso;omega) | cbv) | (refine c_lss hE (fun h=>?_) (fun h=>?_)<;>first | (exfalso;omega) | cbv) | (refine c_leq hE (fun h=>?_) (fun h=>?_)<;>first | (exfalso;omega) | cbv) | (refine c_gtr hE (fun h=>?_) (fun h=>?_)<;>first | (exfalso;omega) | cbv) | (refine c_geq hE (fun h=>?_) (fun h=>?_)<;>first | (exfalso;omega) | cbv) | (refine c_seql hE (fun h=>?_) (fun h=>?_)<;>first | (exfalso;omega) | cbv) | (refine c_sneq hE (fun h=>?_) (fun h=>?_)<;>first | (exfalso;omega) | cbv) | (refine r_sin hE ?_ ?_ ?_;rotate_left 2;cbv) | (refine r_ssin hE ?_ ?_ ?_ ?_;rotate_left 3;cbv) | (refine use_draw hE lay_ok (by kernel_rfl) (by kernel_rfl) ?_;cbv) | (refine c_b hE (fun h=>?_) (fun h=>?_)<;>cbv))
   all_goals exact hP _ _ _ rfl rfl (by rw [sp,hr];exact pan_eq hX)
 have nq:¬ _:=fun h=>q1 (wi.2 h)
 have hlt:i<s.data.toList.length:=hin (fun e=>nq (by omega))
 rw [←hb] at P1 nq hbd
 have hb':=hb.symm
 by_cases q2:b=40
 · have q2':=hb'.trans q2
   refine methO_of lay_ok (Tryd.call72) (Tryd.func72) rfl ?_;intro A E Q hE hf hQ hP
   obtain ⟨N,hN⟩:∃N,N=E.ar .add .i64 op 1:=⟨_,rfl⟩
   have hN1:N=op+1:=hN.trans (e_add hE (by omega) (by omega))
   by_cases q3:d=0
   · have sp:Rx.atom s.data.toList d i=.bad 3 i:=by rw [q3];exact atom_0 q1 q2'
     have h16:(16:Int)<E.ar .add .i64 op 1:=by rw [←hN];omega
     cbv
     repeat' (first | (refine r_true hE rfl ?_;cbv) | (refine r_false hE rfl ?_;cbv) | (refine use_meth hE P1 rfl rfl rfl rfl rfl ?_;cbv) | (refine c_gtr hE (fun h=>?_) (fun h=>absurd h16 h);cbv) | (refine use_thr hE (fail_t _ _) rfl rfl ?_;cbv) | (refine c_eql hE (fun h=>?_) (fun h=>?_)<;>first | (exfalso;omega) | cbv) | (refine c_neq hE (fun h=>?_) (fun h=>?_)<;>first | (exfalso;omega) | cbv) | (refine c_lss hE (fun h=>?_) (fun h=>?_)<;>first | (exfalso;omega) | cbv) | (refine c_leq hE (fun h=>?_) (fun h=>?_)<;>first | (exfalso;omega) | cbv) | (refine c_gtr hE (fun h=>?_) (fun h=>?_)<;>first | (exfalso;omega) | cbv) | (refine c_geq hE (fun h=>?_) (fun h=>?_)<;>first | (exfalso;omega) | cbv) | (refine c_seql hE (fun h=>?_) (fun h=>?_)<;>first | (exfalso;omega) | cbv) | (refine c_sneq hE (fun h=>?_) (fun h=>?_)<;>first | (exfalso;omega) | cbv) | (refine r_sin hE ?_ ?_ ?_;rotate_left 2;cbv) | (refine r_ssin hE ?_ ?_ ?_ ?_;rotate_left 3;cbv) | (refine use_draw hE lay_ok (by kernel_rfl) (by kernel_rfl) ?_;cbv) | (refine c_b hE (fun h=>?_) (fun h=>?_)<;>cbv))
     exact hP _ _ _ rfl rfl (by rw [sp];exact pan_eq hI)
   obtain ⟨d,rfl⟩:∃d',d=d'+1:=⟨d-1,by omega⟩
   have h16:¬(16:Int)<E.ar .add .i64 op 1:=by rw [←hN];omega
   have hO:E.ar .sub .i64 (E.ar .add .i64 op 1) 1=op:=by rw [←hN];exact (e_sub hE (by omega) (by omega)).trans (by omega)
   have g1:=e_inc hE hI (by omega)
   have hfn:=fine_atom s.data.toList d
   have hln:=Rx.size_atom s.data.toList d
   have A1:=alt_c s (E.ar .add .i64 op 1) (H d rfl _ (by rw [←hN];omega)) hfn hln g1 (by omega) hs
   have F1:=fine_alt s.data.toList _ hfn (i+1) (by omega)
   generalize hr1:Rx.alt s.data.toList (Rx.atom s.data.toList d) (i+1)=r1 at *
   cbv
   repeat' (first | (refine r_true hE rfl ?_;cbv) | (refine r_false hE rfl ?_;cbv) | (refine use_meth hE P1 rfl rfl rfl rfl rfl ?_;cbv) | (refine c_gtr hE (fun h=>absurd h h16) (fun h=>?_);cbv) | (refine c_eql hE (fun h=>?_) (fun h=>?_)<;>first | (exfalso;omega) | cbv) | (refine c_neq hE (fun h=>?_) (fun h=>?_)<;>first | (exfalso;omega) | cbv) | (refine c_lss hE (fun h=>?_) (fun h=>?_)<;>first | (exfalso;omega) | cbv) | (refine c_leq hE (fun h=>?_) (fun h=>?_)<;>first | (exfalso;omega) | cbv) | (refine c_gtr hE (fun h=>?_) (fun h=>?_)<;>first | (exfalso;omega) | cbv) | (refine c_geq hE (fun h=>?_) (fun h=>?_)<;>first | (exfalso;omega) | cbv) | (refine c_seql hE (fun h=>?_) (fun h=>?_)<;>first | (exfalso;omega) | cbv) | (refine c_sneq hE (fun h=>?_) (fun h=>?_)<;>first | (exfalso;omega) | cbv) | (refine r_sin hE ?_ ?_ ?_;rotate_left 2;cbv) | (refine r_ssin hE ?_ ?_ ?_ ?_;rotate_left 3;cbv) | (refine use_draw hE lay_ok (by kernel_rfl) (by kernel_rfl) ?_;cbv) | (refine c_b hE (fun h=>?_) (fun h=>?_)<;>cbv))
   refine use_rn hE A1 rfl rfl rfl rfl rfl (fine0_ne F1) (fun n q K x hr hK hx=>?_) (fun e q X hr hX=>?_)<;>cbv
   case refine_2=>exact hP _ _ _ rfl rfl (by rw [atom_altbad q1 q2' (hr1.trans hr)];exact pan_eq hX)
   have hq:=fine0_le F1 hr
   have N1:=need_c s (E.ar .add .i64 op 1) (b:=41) hK (by omega) hs (by decide)
   have F3:=nd_ne s.data.toList q 41
   repeat' (first | (refine r_true hE rfl ?_;cbv) | (refine r_false hE rfl ?_;cbv) | (refine c_eql hE (fun h=>?_) (fun h=>?_)<;>first | (exfalso;omega) | cbv) | (refine c_neq hE (fun h=>?_) (fun h=>?_)<;>first | (exfalso;omega) | cbv) | (refine c_lss hE (fun h=>?_) (fun h=>?_)<;>first | (exfalso;omega) | cbv) | (refine c_leq hE (fun h=>?_) (fun h=>?_)<;>first | (exfalso;omega) | cbv) | (refine c_gtr hE (fun h=>?_) (fun h=>?_)<;>first | (exfalso;omega) | cbv) | (refine c_geq hE (fun h=>?_) (fun h=>?_)<;>first | (exfalso;omega) | cbv) | (refine c_seql hE (fun h=>?_) (fun h=>?_)<;>first | (exfalso;omega) | cbv) | (refine c_sneq hE (fun h=>?_) (fun h=>?_)<;>first | (exfalso;omega) | cbv) | (refine r_sin hE ?_ ?_ ?_;rotate_left 2;cbv) | (refine r_ssin hE ?_ ?_ ?_ ?_;rotate_left 3;cbv) | (refine use_draw hE lay_ok (by kernel_rfl) (by kernel_rfl) ?_;cbv) | (refine c_b hE (fun h=>?_) (fun h=>?_)<;>cbv))
   refine use_rd hE N1 rfl rfl rfl rfl rfl F3 (fun u z Z hr3 hZ=>?_) (fun e z X hr3 hX=>?_)<;>cbv
   case refine_2=>exact hP _ _ _ rfl rfl (by rw [atom_ndbad q1 q2' (hr1.trans hr) hr3];exact pan_eq hX)
   repeat' (first | (refine r_true hE rfl ?_;cbv) | (refine r_false hE rfl ?_;cbv) | (refine c_eql hE (fun h=>?_) (fun h=>?_)<;>first | (exfalso;omega) | cbv) | (refine c_neq hE (fun h=>?_) (fun h=>?_)<;>first | (exfalso;omega) | cbv) | (refine c_lss hE (fun h=>?_) (fun h=>?_)<;>first | (exfalso;omega) | cbv) | (refine c_leq hE (fun h=>?_) (fun h=>?_)<;>first | (exfalso;omega) | cbv) | (refine c_gtr hE (fun h=>?_) (fun h=>?_)<;>first | (exfalso;omega) | cbv) | (refine c_geq hE (fun h=>?_) (fun h=>?_)<;>first | (exfalso;omega) | cbv) | (refine c_seql hE (fun h=>?_) (fun h=>?_)<;>first | (exfalso;omega) | cbv) | (refine c_sneq hE (fun h=>?_) (fun h=>?_)<;>first | (exfalso;omega) | cbv) | (refine r_sin hE ?_ ?_ ?_;rotate_left 2;cbv) | (refine r_ssin hE ?_ ?_ ?_ ?_;rotate_left 3;cbv) | (refine use_draw hE lay_ok (by kernel_rfl) (by kernel_rfl) ?_;cbv) | (refine c_b hE (fun h=>?_) (fun h=>?_)<;>cbv))
   exact And.left (hQ _ _ _ _ _ rfl rfl rfl rfl (by rw [atom_nd q1 q2' (hr1.trans hr) hr3];exact ret_eqO (by show _=nsV (ns n);rw [←hx];rfl) hZ hO))
 by_cases q3:b=46
 · have q3':=hb'.trans q3
   have sp:=atom_46 (d:=d) q1 q3'
   have hof:=f_of (x:=0) (y:=255) (lo:=0) (hi:=255) rfl rfl (by decide) (by decide)
   refine methO_of lay_ok (Tryd.call72) (Tryd.func72) rfl ?_;intro A E Q hE hf hQ hP
   have g1:=e_inc hE hI (by omega)
   cbv
   repeat' (first | (refine r_true hE rfl ?_;cbv) | (refine r_false hE rfl ?_;cbv) | (refine use_meth hE P1 rfl rfl rfl rfl rfl ?_;cbv) | (refine use_s hE hof rfl rfl fun x hx=>?_;cbv) | (refine c_eql hE (fun h=>?_) (fun h=>?_)<;>first | (exfalso;omega) | cbv) | (refine c_neq hE (fun h=>?_) (fun h=>?_)<;>first | (exfalso;omega) | cbv) | (refine c_lss hE (fun h=>?_) (fun h=>?_)<;>first | (exfalso;omega) | cbv) | (refine c_leq hE (fun h=>?_) (fun h=>?_)<;>first | (exfalso;omega) | cbv) | (refine c_gtr hE (fun h=>?_) (fun h=>?_)<;>first | (exfalso;omega) | cbv) | (refine c_geq hE (fun h=>?_) (fun h=>?_)<;>first | (exfalso;omega) | cbv) | (refine c_seql hE (fun h=>?_) (fun h=>?_)<;>first | (exfalso;omega) | cbv) | (refine c_sneq hE (fun h=>?_) (fun h=>?_)<;>first | (exfalso;omega) | cbv) | (refine r_sin hE ?_ ?_ ?_;rotate_left 2;cbv) | (refine r_ssin hE ?_ ?_ ?_ ?_;rotate_left 3;cbv) | (refine use_draw hE lay_ok (by kernel_rfl) (by kernel_rfl) ?_;cbv) | (refine c_b hE (fun h=>?_) (fun h=>?_)<;>cbv))
   exact And.left (hQ _ _ _ _ _ rfl rfl rfl rfl (by rw [sp];exact ret_eq (by rw [leaf_v,←hx];rfl) g1))
 by_cases q4:b=91
 · have q4':=hb'.trans q4
   have F1:=fine_ne (fine_cls s.data.toList (i+1) (by omega))
   refine methO_of lay_ok (Tryd.call72) (Tryd.func72) rfl ?_;intro A E Q hE hf hQ hP
   have g1:=e_inc hE hI (by omega)
   have C1:=class_c s op g1 (by omega) hs
   cbv
   repeat' (first | (refine r_true hE rfl ?_;cbv) | (refine r_false hE rfl ?_;cbv) | (refine use_meth hE P1 rfl rfl rfl rfl rfl ?_;cbv) | (refine c_eql hE (fun h=>?_) (fun h=>?_)<;>first | (exfalso;omega) | cbv) | (refine c_neq hE (fun h=>?_) (fun h=>?_)<;>first | (exfalso;omega) | cbv) | (refine c_lss hE (fun h=>?_) (fun h=>?_)<;>first | (exfalso;omega) | cbv) | (refine c_leq hE (fun h=>?_) (fun h=>?_)<;>first | (exfalso;omega) | cbv) | (refine c_gtr hE (fun h=>?_) (fun h=>?_)<;>first | (exfalso;omega) | cbv) | (refine c_geq hE (fun h=>?_) (fun h=>?_)<;>first | (exfalso;omega) | cbv) | (refine c_seql hE (fun h=>?_) (fun h=>?_)<;>first | (exfalso;omega) | cbv) | (refine c_sneq hE (fun h=>?_) (fun h=>?_)<;>first | (exfalso;omega) | cbv) | (refine r_sin hE ?_ ?_ ?_;rotate_left 2;cbv) | (refine r_ssin hE ?_ ?_ ?_ ?_;rotate_left 3;cbv) | (refine use_draw hE lay_ok (by kernel_rfl) (by kernel_rfl) ?_;cbv) | (refine c_b hE (fun h=>?_) (fun h=>?_)<;>cbv))
   refine use_rd hE C1 rfl rfl rfl rfl rfl F1 (fun S z Z hr hZ=>?_) (fun e z X hr hX=>?_)<;>cbv
   case refine_2=>exact hP _ _ _ rfl rfl (by rw [atom_clsbad q1 q4' hr];exact pan_eq hX)
   repeat' (first | (refine r_true hE rfl ?_;cbv) | (refine r_false hE rfl ?_;cbv) | (refine c_eql hE (fun h=>?_) (fun h=>?_)<;>first | (exfalso;omega) | cbv) | (refine c_neq hE (fun h=>?_) (fun h=>?_)<;>first | (exfalso;omega) | cbv) | (refine c_lss hE (fun h=>?_) (fun h=>?_)<;>first | (exfalso;omega) | cbv) | (refine c_leq hE (fun h=>?_) (fun h=>?_)<;>first | (exfalso;omega) | cbv) | (refine c_gtr hE (fun h=>?_) (fun h=>?_)<;>first | (exfalso;omega) | cbv) | (refine c_geq hE (fun h=>?_) (fun h=>?_)<;>first | (exfalso;omega) | cbv) | (refine c_seql hE (fun h=>?_) (fun h=>?_)<;>first | (exfalso;omega) | cbv) | (refine c_sneq hE (fun h=>?_) (fun h=>?_)<;>first | (exfalso;omega) | cbv) | (refine r_sin hE ?_ ?_ ?_;rotate_left 2;cbv) | (refine r_ssin hE ?_ ?_ ?_ ?_;rotate_left 3;cbv) | (refine use_draw hE lay_ok (by kernel_rfl) (by kernel_rfl) ?_;cbv) | (refine c_b hE (fun h=>?_) (fun h=>?_)<;>cbv))
   exact And.left (hQ _ _ _ _ _ rfl rfl rfl rfl (by rw [atom_cls q1 q4' hr];exact ret_eq (by rw [leaf_v];rfl) hZ))
 by_cases q5:b=92
 · have q5':=hb'.trans q5
   have F1:=fine_ne (fine_esc s.data.toList i)
   have C1:=escape_c s op hI (by omega) hs
   refine methO_of lay_ok (Tryd.call72) (Tryd.func72) rfl ?_;intro A E Q hE hf hQ hP
   cbv
   repeat' (first | (refine r_true hE rfl ?_;cbv) | (refine r_false hE rfl ?_;cbv) | (refine use_meth hE P1 rfl rfl rfl rfl rfl ?_;cbv) | (refine c_eql hE (fun h=>?_) (fun h=>?_)<;>first | (exfalso;omega) | cbv) | (refine c_neq hE (fun h=>?_) (fun h=>?_)<;>first | (exfalso;omega) | cbv) | (refine c_lss hE (fun h=>?_) (fun h=>?_)<;>first | (exfalso;omega) | cbv) | (refine c_leq hE (fun h=>?_) (fun h=>?_)<;>first | (exfalso;omega) | cbv) | (refine c_gtr hE (fun h=>?_) (fun h=>?_)<;>first | (exfalso;omega) | cbv) | (refine c_geq hE (fun h=>?_) (fun h=>?_)<;>first | (exfalso;omega) | cbv) | (refine c_seql hE (fun h=>?_) (fun h=>?_)<;>first | (exfalso;omega) | cbv) | (refine c_sneq hE (fun h=>?_) (fun h=>?_)<;>first | (exfalso;omega) | cbv) | (refine r_sin hE ?_ ?_ ?_;rotate_left 2;cbv) | (refine r_ssin hE ?_ ?_ ?_ ?_;rotate_left 3;cbv) | (refine use_draw hE lay_ok (by kernel_rfl) (by kernel_rfl) ?_;cbv) | (refine c_b hE (fun h=>?_) (fun h=>?_)<;>cbv))
   refine use_rd hE C1 rfl rfl rfl rfl rfl F1 (fun S z Z hr hZ=>?_) (fun e z X hr hX=>?_)<;>cbv
   case refine_2=>exact hP _ _ _ rfl rfl (by rw [atom_escbad q1 q5' hr];exact pan_eq hX)
   repeat' (first | (refine r_true hE rfl ?_;cbv) | (refine r_false hE rfl ?_;cbv) | (refine c_eql hE (fun h=>?_) (fun h=>?_)<;>first | (exfalso;omega) | cbv) | (refine c_neq hE (fun h=>?_) (fun h=>?_)<;>first | (exfalso;omega) | cbv) | (refine c_lss hE (fun h=>?_) (fun h=>?_)<;>first | (exfalso;omega) | cbv) | (refine c_leq hE (fun h=>?_) (fun h=>?_)<;>first | (exfalso;omega) | cbv) | (refine c_gtr hE (fun h=>?_) (fun h=>?_)<;>first | (exfalso;omega) | cbv) | (refine c_geq hE (fun h=>?_) (fun h=>?_)<;>first | (exfalso;omega) | cbv) | (refine c_seql hE (fun h=>?_) (fun h=>?_)<;>first | (exfalso;omega) | cbv) | (refine c_sneq hE (fun h=>?_) (fun h=>?_)<;>first | (exfalso;omega) | cbv) | (refine r_sin hE ?_ ?_ ?_;rotate_left 2;cbv) | (refine r_ssin hE ?_ ?_ ?_ ?_;rotate_left 3;cbv) | (refine use_draw hE lay_ok (by kernel_rfl) (by kernel_rfl) ?_;cbv) | (refine c_b hE (fun h=>?_) (fun h=>?_)<;>cbv))
   exact And.left (hQ _ _ _ _ _ rfl rfl rfl rfl (by rw [atom_esc q1 q5' hr];exact ret_eq (by rw [leaf_v];rfl) hZ))
 have sp:=atom_else (d:=d) q1 (by rw [←hb];exact q2) (by rw [←hb];exact q3) (by rw [←hb];exact q4) (by rw [←hb];exact q5)
 rw [←hb] at sp
 refine methO_of lay_ok (Tryd.call72) (Tryd.func72) rfl ?_;intro A E Q hE hf hQ hP
 have g1:=e_inc hE hI (by omega)
 have hcb:=conv_byte hE (b:=b) (by omega) hbd.2
 have hof:=f_of (x:=E.conv .u8 b) (y:=E.conv .u8 b) (lo:=b.toNat) (hi:=b.toNat) hcb hcb (by omega) (by omega)
 cbv
 repeat' (first | (refine r_true hE rfl ?_;cbv) | (refine r_false hE rfl ?_;cbv) | (refine use_meth hE P1 rfl rfl rfl rfl rfl ?_;cbv) | (refine use_s hE hof rfl rfl fun x hx=>?_;cbv) | (refine c_eql hE (fun h=>?_) (fun h=>?_)<;>first | (exfalso;omega) | cbv) | (refine c_neq hE (fun h=>?_) (fun h=>?_)<;>first | (exfalso;omega) | cbv) | (refine c_lss hE (fun h=>?_) (fun h=>?_)<;>first | (exfalso;omega) | cbv) | (refine c_leq hE (fun h=>?_) (fun h=>?_)<;>first | (exfalso;omega) | cbv) | (refine c_gtr hE (fun h=>?_) (fun h=>?_)<;>first | (exfalso;omega) | cbv) | (refine c_geq hE (fun h=>?_) (fun h=>?_)<;>first | (exfalso;omega) | cbv) | (refine c_seql hE (fun h=>?_) (fun h=>?_)<;>first | (exfalso;omega) | cbv) | (refine c_sneq hE (fun h=>?_) (fun h=>?_)<;>first | (exfalso;omega) | cbv) | (refine r_sin hE ?_ ?_ ?_;rotate_left 2;cbv) | (refine r_ssin hE ?_ ?_ ?_ ?_;rotate_left 3;cbv) | (refine use_draw hE lay_ok (by kernel_rfl) (by kernel_rfl) ?_;cbv) | (refine c_b hE (fun h=>?_) (fun h=>?_)<;>cbv))
 exact And.left (hQ _ _ _ _ _ rfl rfl rfl rfl (by rw [sp];exact ret_eq (by rw [leaf_v,show Rx.one b=x from hx.symm];rfl) g1))
theorem atom_c (s:ByteArray) (hs:s.size≤1000):∀(d:Nat) (op:Int),op=16-(d:Int)→d≤16→AtomC s op (Rx.atom s.data.toList d):=by
 intro d
 induction d with
 | zero=>exact fun op hop hd=>atom_step s hs 0 op hop hd (fun d' e=>by omega)
 | succ d ih=>exact fun op hop hd=>atom_step s hs (d+1) op hop hd (fun d' e op' h'=>by cases Nat.succ.inj e;exact ih op' h' (by omega))
end Rd
end Go.Proofs.YtbpihhelojjedaaDoor
namespace Go.Proofs.YtbpihhelojjedaaDoor
open Go Go.RowKit
namespace Ab
section
variable {P:Program} {A:Run} {L:TypeId→Option Lt}
theorem Rel.again {cx:Cx} {s:St} {a:Act} {w:World} (R:Rel A cx s a w) (hpin:∀i,A.pin i=none) (n:Nat) (hn:n≤s.heap.length) (pan:V→St→Prop) (D:List Deferred) (i:Tmp) (u:Value):
 Rel ⟨A.w,A.M,A.G,fun i=>if i<n then cx.at_ i else none,n,pan,D⟩ cx ⟨s.tmps.set i .junk,s.heap,n⟩ {a.put (some i) u with defers:=D} w:=by
 refine ⟨VReps.put (s:=s) R.tm (.junk u) (some i),rfl,R.hp,?_,rfl⟩
 refine ⟨R.kp.os,R.kp.tape,R.kp.output,R.kp.size,R.kp.block,R.kp.live,R.kp.G0,R.kp.G1,R.kp.G2,fun j B h=>?_,hn,R.kp.tab⟩
 have h':(if j<n then cx.at_ j else none)=some B:=h
 split at h'
 · rename_i e;exact ⟨h',e⟩
 · cases h'
theorem defer_wp (hL:LayOk P L) {c0 c1 r3 rest:Code} {s0:St} {a0:Act} {w0:World} {cx0:Cx} (R0:Rel A cx0 s0 a0 w0) (hD:A.D=[]) {W:Exit→Act→World→Prop} {Q1:Ex→St→Prop}
 (h1:pwp (dom P A) L (c0.seq c1) s0 Q1) (hpan:∀v t,¬ A.pan v t)
 (hret:∀e e' s cx a w,e≠.normal→exRel e e'→Q1 e' s→Rel A cx s a w→W e a w)
 (hnor:∀s cx a w,Q1 .normal s→Rel A cx s a w→a.defers=[]→r3.wp P (Exit.then (rest.wp P W) W) a w):
 (c0.seq (c1.seq (r3.seq rest))).wp P W a0 w0:=by
 refine wp_seq ?_
 have h1':pwp (dom P A) L c0 s0 (fun e s=>match e with | .normal=>pwp (dom P A) L c1 s Q1 | e=>Q1 e s):=h1
 refine wp_mono (pwp_sound hL c0 s0 _ h1' cx0 a0 w0 R0) fun e a w h=>?_
 rcases h with ⟨e',s',cx',g1,g2,g3⟩ | ⟨ch,rfl,h⟩
 case inr=>obtain ⟨v,u,s,cx,-,-,h,-⟩:=h;exact absurd h (hpan _ _)
 cases e with
 | normal=>
   cases e'<;>first | exact g1.elim | skip
   refine wp_seq (wp_mono (pwp_sound hL c1 s' _ g2 cx' a w g3) fun e a w h=>?_)
   rcases h with ⟨e',s2,cx2,k1,k2,k3⟩ | ⟨ch,rfl,h⟩
   case inr=>obtain ⟨v,u,s,cx,-,-,h,-⟩:=h;exact absurd h (hpan _ _)
   cases e with
   | normal=>
     cases e'<;>first | exact k1.elim | skip
     exact wp_seq (hnor s2 cx2 a w k2 k3 (k3.df.trans hD))
   | _=>exact hret _ _ _ _ _ _ (by simp) k1 k2 k3
 | _=>cases e'<;>first | exact g1.elim | exact hret _ _ _ _ _ _ (by simp) g1 g2 g3
end
end Ab
end Go.Proofs.YtbpihhelojjedaaDoor
