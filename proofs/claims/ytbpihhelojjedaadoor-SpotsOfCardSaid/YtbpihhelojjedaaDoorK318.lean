/- Texts that the proof leans on. -/
import Derived.Test.YtbpihhelojjedaaDoorK317
set_option linter.unusedVariables false
set_option linter.unusedSimpArgs false
set_option maxRecDepth 100000
set_option maxHeartbeats 4000000
namespace Go.Proofs.YtbpihhelojjedaaDoor
open Go Go.RowKit
open Ab
namespace Rd
theorem use_ms {P:Program} {A:Run} {E:Env} (hE:dom P A=E) {α:Type} {f:FuncId} {ty:TypeId} {id:Nat} {cells0 cells args args':List V} {s:St} {sh:α→V} {a:α} {cells':List V} {K:V→St→Prop} (hM:Meth P f ty cells args' (.ret (sh a) cells')) (hrow:s.heap.getD id none=some (.box ty cells0)) (hcs:nrm.nrmL cells0=cells) (he:nrm.nrmL args=args') (hcc:cells0.all V.closedB=true) (hca:args.all V.closedB=true)
 (hK:∀x,x=a→K (sh x) (s.setRow id (.box ty cells'))):E.call f (.ptr id 0::args) s K:=use_meth hE hM hrow hcs he hcc hca (hK a rfl)
theorem use_rd {P:Program} {A:Run} {E:Env} (hE:dom P A=E) {α:Type} {f:FuncId} {ty:TypeId} {id:Nat} {cells0 cells args args':List V} {s:St} {t:ByteArray} {op:Int} {sh:α→V} {r:Res α} {K:V→St→Prop} (hM:Meth P f ty cells args' (rdOut t op sh r)) (hrow:s.heap.getD id none=some (.box ty cells0)) (hcs:nrm.nrmL cells0=cells) (he:nrm.nrmL args=args') (hcc:cells0.all V.closedB=true) (hca:args.all V.closedB=true) (ho:r≠.out)
 (h1:∀a p J,r=.ok a p→J=((p:Nat):Int)→K (sh a) (s.setRow id (.box ty [fS t,fI .i64 J,fI .i64 op]))) (h2:∀e p X,r=.bad e p→X=((p:Nat):Int)→E.pan (faultV e X) (s.setRow id (.box ty (List.replicate cells0.length .junk)))):E.call f (.ptr id 0::args) s K:=by
 cases r with
 | ok a p=>exact use_meth hE hM hrow hcs he hcc hca (h1 a p _ rfl rfl)
 | bad e p=>exact use_methP hE hM hrow hcs he hcc hca (h2 e p _ rfl rfl)
 | out=>exact absurd rfl ho
theorem use_bad {P:Program} {A:Run} {E:Env} (hE:dom P A=E) {α:Type} {f:FuncId} {ty:TypeId} {id:Nat} {cells0 cells args args':List V} {s:St} {t:ByteArray} {op:Int} {sh:α→V} {r:Res α} {K:V→St→Prop} (hM:Meth P f ty cells args' (rdOut t op sh r)) (hrow:s.heap.getD id none=some (.box ty cells0)) (hcs:nrm.nrmL cells0=cells) (he:nrm.nrmL args=args') (hcc:cells0.all V.closedB=true) (hca:args.all V.closedB=true) (ho:∃e p,r=.bad e p)
 (h2:∀e p X,r=.bad e p→X=((p:Nat):Int)→E.pan (faultV e X) (s.setRow id (.box ty (List.replicate cells0.length .junk)))):E.call f (.ptr id 0::args) s K:=by
 obtain ⟨e,p,rfl⟩:=ho
 exact use_methP hE hM hrow hcs he hcc hca (h2 e p _ rfl rfl)
theorem c_bT {P:Program} {A:Run} {E:Env} (hE:dom P A=E) {b:Bool} {p q:Unit→Prop} (h:b=true) (k:p ()):E.ifb b p q:=c_b hE (fun _=>k) (fun h'=>by subst h;cases h')
theorem c_bF {P:Program} {A:Run} {E:Env} (hE:dom P A=E) {b:Bool} {p q:Unit→Prop} (h:b=false) (k:q ()):E.ifb b p q:=c_b hE (fun h'=>by subst h;cases h') (fun _=>k)
theorem fine_ne {α:Type} {l:List UInt8} {i:Nat} {r:Res α} (h:Fine l i r):r≠.out:=fun e=>by subst e;exact h.elim
theorem fine0_ne {α:Type} {l:List UInt8} {i:Nat} {r:Res α} (h:Fine0 l i r):r≠.out:=fun e=>by subst e;exact h.elim
theorem fine_le {α:Type} {l:List UInt8} {i p:Nat} {r:Res α} {a:α} (h:Fine l i r) (e:r=.ok a p):i<p∧p≤l.length:=by subst e;exact h
theorem fine0_le {α:Type} {l:List UInt8} {i p:Nat} {r:Res α} {a:α} (h:Fine0 l i r) (e:r=.ok a p):i≤p∧p≤l.length:=by subst e;exact h
theorem other_bad {α:Type} (l:List UInt8) (i:Nat):∃e p,(Rx.other l i:Res α)=.bad e p:=by
 unfold Rx.other;split<;>exact ⟨_,_,rfl⟩
theorem pk_ge {l:List UInt8} {i:Nat} (h:i<l.length):0≤Rx.pk l i:=by
 unfold Rx.pk;rw [List.getElem?_eq_getElem h];simp
theorem wrong_c {α:Type} (s:ByteArray) {I:Int} {i:Nat} (op:Int) (sh:α→V) (hI:I=i):Meth Tryd.prog 43 74 (rd s I op) [] (rdOut s op sh (Rx.other s.data.toList i:Res α)):=by
 have hl:s.data.toList.length=s.size:=by simp
 rcases Nat.lt_or_ge i s.size with h | h
 · have:=wrong_form s op (i:=I) (by omega) (by omega)
   rw [show (Rx.other s.data.toList i:Res α)=.bad 2 i by unfold Rx.other;rw [if_neg (fun e=>by have:=pk_ge (l:=s.data.toList) (i:=i) (by omega);omega)]]
   rw [hI] at this ⊢;exact this
 · have:=wrong_end s op (i:=I) (by omega) (by omega)
   rw [other_end (by omega),←hl] at *;exact this
theorem e_inc {P:Program} {A:Run} {E:Env} (hE:dom P A=E) {J:Int} {p:Nat} (hJ:J=(p:Int)) (h:p≤1000000):E.ar .add .i64 J 1=((p+1:Nat):Int):=(e_add hE (by omega) (by omega)).trans (by omega)
theorem sign_c (s:ByteArray) {I:Int} {i:Nat} (op:Int) (hI:I=i) (hi:i≤s.size) (hs:s.size≤1000):Meth Tryd.prog 103 74 (rd s I op) [] (rdOut s op shSB (Rx.sign s.data.toList i)):=by
 have hl:s.data.toList.length=s.size:=by simp
 have hbd:=pkb s.data.toList i
 have hin:=fun h=>pk_in (l:=s.data.toList) (i:=i) h
 have P1:=peek_l s op hI
 have W1:=wrong_c s op shSB hI
 have E1:=fun h=>escape_c s op hI h hs
 have F1:=fine_ne (fine_esc s.data.toList i)
 have O1:=other_bad (α:=CSet × Bool) s.data.toList i
 have sp:Rx.sign s.data.toList i=Rx.sign s.data.toList i:=rfl
 conv at sp=>rhs;unfold Rx.sign
 obtain ⟨b,hb⟩:∃b,b=Rx.pk s.data.toList i:=⟨_,rfl⟩
 rw [←hb] at hbd hin sp P1
 refine methO_of lay_ok (Tryd.call103) (Tryd.func103) rfl ?_;intro A E Q hE hf hQ hP
 by_cases q1:b=92
 · rw [if_pos q1] at sp
   have E1:=E1 (by have:=hin (by omega);omega)
   generalize Rx.esc s.data.toList i=r at *
   cbv
   repeat' (first | (refine r_true hE rfl ?_;cbv) | (refine r_false hE rfl ?_;cbv) | (refine use_meth hE P1 rfl rfl rfl rfl rfl ?_;cbv) | (refine use_rd hE E1 rfl rfl rfl rfl rfl F1 (fun a p J hr hJ=>?_) (fun e p X hr hX=>?_)<;>cbv) | (refine c_eql hE (fun h=>?_) (fun h=>?_)<;>first | (exfalso;omega) | cbv) | (refine c_neq hE (fun h=>?_) (fun h=>?_)<;>first | (exfalso;omega) | cbv) | (refine c_lss hE (fun h=>?_) (fun h=>?_)<;>first | (exfalso;omega) | cbv) | (refine c_leq hE (fun h=>?_) (fun h=>?_)<;>first | (exfalso;omega) | cbv) | (refine c_gtr hE (fun h=>?_) (fun h=>?_)<;>first | (exfalso;omega) | cbv) | (refine c_geq hE (fun h=>?_) (fun h=>?_)<;>first | (exfalso;omega) | cbv) | (refine c_seql hE (fun h=>?_) (fun h=>?_)<;>first | (exfalso;omega) | cbv) | (refine c_sneq hE (fun h=>?_) (fun h=>?_)<;>first | (exfalso;omega) | cbv) | (refine r_sin hE ?_ ?_ ?_;rotate_left 2;cbv) | (refine r_ssin hE ?_ ?_ ?_ ?_;rotate_left 3;cbv) | (refine use_draw hE lay_ok (by kernel_rfl) (by kernel_rfl) ?_;cbv) | (refine c_b hE (fun h=>?_) (fun h=>?_)<;>cbv))
   · exact And.left (hQ _ _ _ _ _ rfl rfl rfl rfl (by rw [sp,hr];exact ret_eq rfl hJ))
   · exact hP _ _ _ rfl rfl (by rw [sp,hr];exact pan_eq hX)
 rw [if_neg q1] at sp
 by_cases q2:b=-1∨b=91∨b=93∨b=45∨b=94
 · rw [if_pos q2] at sp
   generalize (Rx.other s.data.toList i:Res (CSet × Bool))=r at *
   cbv
   repeat' (first | (refine r_true hE rfl ?_;cbv) | (refine r_false hE rfl ?_;cbv) | (refine use_meth hE P1 rfl rfl rfl rfl rfl ?_;cbv) | (refine use_bad hE W1 rfl rfl rfl rfl rfl O1 (fun e p X hr hX=>?_);cbv) | (refine c_eql hE (fun h=>?_) (fun h=>?_)<;>first | (exfalso;omega) | cbv) | (refine c_neq hE (fun h=>?_) (fun h=>?_)<;>first | (exfalso;omega) | cbv) | (refine c_lss hE (fun h=>?_) (fun h=>?_)<;>first | (exfalso;omega) | cbv) | (refine c_leq hE (fun h=>?_) (fun h=>?_)<;>first | (exfalso;omega) | cbv) | (refine c_gtr hE (fun h=>?_) (fun h=>?_)<;>first | (exfalso;omega) | cbv) | (refine c_geq hE (fun h=>?_) (fun h=>?_)<;>first | (exfalso;omega) | cbv) | (refine c_seql hE (fun h=>?_) (fun h=>?_)<;>first | (exfalso;omega) | cbv) | (refine c_sneq hE (fun h=>?_) (fun h=>?_)<;>first | (exfalso;omega) | cbv) | (refine r_sin hE ?_ ?_ ?_;rotate_left 2;cbv) | (refine r_ssin hE ?_ ?_ ?_ ?_;rotate_left 3;cbv) | (refine use_draw hE lay_ok (by kernel_rfl) (by kernel_rfl) ?_;cbv) | (refine c_b hE (fun h=>?_) (fun h=>?_)<;>cbv))
   all_goals exact hP _ _ _ rfl rfl (by rw [sp,hr];exact pan_eq hX)
 rw [if_neg q2] at sp
 have hcb:=conv_byte hE (b:=b) (by omega) hbd.2
 have hof:=f_of (x:=E.conv .u8 b) (y:=E.conv .u8 b) (lo:=b.toNat) (hi:=b.toNat) hcb hcb (by omega) (by omega)
 have hJ:=e_inc hE hI (by omega)
 cbv
 repeat' (first | (refine r_true hE rfl ?_;cbv) | (refine r_false hE rfl ?_;cbv) | (refine use_meth hE P1 rfl rfl rfl rfl rfl ?_;cbv) | (refine use_s hE hof rfl rfl fun x hx=>?_;cbv) | (refine c_eql hE (fun h=>?_) (fun h=>?_)<;>first | (exfalso;omega) | cbv) | (refine c_neq hE (fun h=>?_) (fun h=>?_)<;>first | (exfalso;omega) | cbv) | (refine c_lss hE (fun h=>?_) (fun h=>?_)<;>first | (exfalso;omega) | cbv) | (refine c_leq hE (fun h=>?_) (fun h=>?_)<;>first | (exfalso;omega) | cbv) | (refine c_gtr hE (fun h=>?_) (fun h=>?_)<;>first | (exfalso;omega) | cbv) | (refine c_geq hE (fun h=>?_) (fun h=>?_)<;>first | (exfalso;omega) | cbv) | (refine c_seql hE (fun h=>?_) (fun h=>?_)<;>first | (exfalso;omega) | cbv) | (refine c_sneq hE (fun h=>?_) (fun h=>?_)<;>first | (exfalso;omega) | cbv) | (refine r_sin hE ?_ ?_ ?_;rotate_left 2;cbv) | (refine r_ssin hE ?_ ?_ ?_ ?_;rotate_left 3;cbv) | (refine use_draw hE lay_ok (by kernel_rfl) (by kernel_rfl) ?_;cbv) | (refine c_b hE (fun h=>?_) (fun h=>?_)<;>cbv))
 exact And.left (hQ _ _ _ _ _ rfl rfl rfl rfl (by rw [sp];exact ret_eq (by rw [hx];rfl) hJ))
theorem first_one {n:Nat} (h:n<256):(CSet.between n n).first=n:=by
 unfold CSet.first
 refine CSet.first_at _ 256 0 n (by omega) (by omega) ?_ (fun j _ hj=>?_)
 · rw [CSet.has_between n n n h h];simp
 · rw [CSet.has_between n n j h (by omega)];simp;omega
theorem esc_single {l:List UInt8} {i p:Nat} {S:CSet} (h:Rx.esc l i=.ok (S,false) p):∃n,n<256∧S=CSet.between n n:=by
 have hb:=pkb l (i+1)
 unfold Rx.esc at h
 split at h
 · cases h
 · split at h
   · cases h
   · split at h
     · cases h
     · split at h
       · split at h
         · cases h
         · split at h
           · cases h
           · split at h
             · cases h
             · split at h
               · cases h
               · obtain ⟨h',rfl⟩:=Res.ok.inj h
                 have h1:=hexv_le (Rx.pk l (i+2))
                 have h2:=hexv_le (Rx.pk l (i+3))
                 refine ⟨_,?_,((Prod.mk.inj h').1).symm⟩
                 omega
       · split at h
         · obtain ⟨h',rfl⟩:=Res.ok.inj h
           refine ⟨_,?_,((Prod.mk.inj h').1).symm⟩
           omega
         · cases h
theorem sign_single {l:List UInt8} {i p:Nat} {S:CSet} (h:Rx.sign l i=.ok (S,false) p):∃n,n<256∧S=CSet.between n n:=by
 have hb:=pkb l i
 unfold Rx.sign at h
 split at h
 · exact esc_single h
 · split at h
   · unfold Rx.other at h;split at h<;>cases h
   · obtain ⟨h',rfl⟩:=Res.ok.inj h
     refine ⟨_,?_,((Prod.mk.inj h').1).symm⟩
     omega
theorem sign_first {l:List UInt8} {i p:Nat} {a:CSet × Bool} (h:Rx.sign l i=.ok a p) (hm:a.2=false):0≤a.1.first∧a.1.first≤255:=by
 obtain ⟨S,m⟩:=a
 have hm:m=false:=hm
 subst hm
 obtain ⟨n,hn,rfl⟩:=sign_single h
 show 0≤(CSet.between n n).first∧(CSet.between n n).first≤255
 rw [first_one hn];omega
theorem item_bad1 {l:List UInt8} {i p:Nat} {e:Int} (h:Rx.sign l i=.bad e p):Rx.item l i=.bad e p:=by unfold Rx.item;rw [h]
theorem item_1 {l:List UInt8} {i p:Nat} {a:CSet × Bool} (h:Rx.sign l i=.ok a p) (hn:a.2=true∨Rx.pk l p≠45):Rx.item l i=.ok a.1 p:=by
 obtain ⟨S,m⟩:=a;unfold Rx.item;rw [h];exact if_pos hn
theorem item_bad2 {l:List UInt8} {i p q:Nat} {a:CSet × Bool} {e:Int} (h:Rx.sign l i=.ok a p) (hn:¬(a.2=true∨Rx.pk l p≠45)) (h2:Rx.sign l (p+1)=.bad e q):Rx.item l i=.bad e q:=by
 obtain ⟨S,m⟩:=a;unfold Rx.item;rw [h];dsimp only;rw [if_neg hn,h2]
theorem item_2 {l:List UInt8} {i p q:Nat} {a c:CSet × Bool} (h:Rx.sign l i=.ok a p) (hn:¬(a.2=true∨Rx.pk l p≠45)) (h2:Rx.sign l (p+1)=.ok c q) (hb:c.2=true∨c.1.first<a.1.first):Rx.item l i=.bad 2 (p+1):=by
 obtain ⟨S,m⟩:=a;obtain ⟨T,k⟩:=c;unfold Rx.item;rw [h];dsimp only;rw [if_neg hn,h2];exact if_pos hb
theorem item_3 {l:List UInt8} {i p q:Nat} {a c:CSet × Bool} (h:Rx.sign l i=.ok a p) (hn:¬(a.2=true∨Rx.pk l p≠45)) (h2:Rx.sign l (p+1)=.ok c q) (hb:¬(c.2=true∨c.1.first<a.1.first)):Rx.item l i=.ok (CSet.between a.1.first.toNat c.1.first.toNat) q:=by
 obtain ⟨S,m⟩:=a;obtain ⟨T,k⟩:=c;unfold Rx.item;rw [h];dsimp only;rw [if_neg hn,h2];exact if_neg hb
theorem item_c (s:ByteArray) {I:Int} {i:Nat} (op:Int) (hI:I=i) (hi:i≤s.size) (hs:s.size≤1000):Meth Tryd.prog 97 74 (rd s I op) [] (rdOut s op setV (Rx.item s.data.toList i)):=by
 have hl:s.data.toList.length=s.size:=by simp
 have F1:=fine_sign s.data.toList i
 have S1:=sign_c s op hI hi hs
 refine methO_of lay_ok (Tryd.call97) (Tryd.func97) rfl ?_;intro A E Q hE hf hQ hP
 cbv
 refine use_rd hE S1 rfl rfl rfl rfl rfl (fine_ne F1) (fun a p J hr hJ=>?_) (fun e p X hr hX=>?_)<;>cbv
 case refine_2=>exact hP _ _ _ rfl rfl (by rw [item_bad1 hr];exact pan_eq hX)
 have hp:=fine_le F1 hr
 refine c_b hE (fun hm=>?_) (fun hm=>?_)<;>cbv
 · repeat' (first | (refine r_true hE rfl ?_;cbv) | (refine r_false hE rfl ?_;cbv) | (refine c_eql hE (fun h=>?_) (fun h=>?_)<;>first | (exfalso;omega) | cbv) | (refine c_neq hE (fun h=>?_) (fun h=>?_)<;>first | (exfalso;omega) | cbv) | (refine c_lss hE (fun h=>?_) (fun h=>?_)<;>first | (exfalso;omega) | cbv) | (refine c_leq hE (fun h=>?_) (fun h=>?_)<;>first | (exfalso;omega) | cbv) | (refine c_gtr hE (fun h=>?_) (fun h=>?_)<;>first | (exfalso;omega) | cbv) | (refine c_geq hE (fun h=>?_) (fun h=>?_)<;>first | (exfalso;omega) | cbv) | (refine c_seql hE (fun h=>?_) (fun h=>?_)<;>first | (exfalso;omega) | cbv) | (refine c_sneq hE (fun h=>?_) (fun h=>?_)<;>first | (exfalso;omega) | cbv) | (refine r_sin hE ?_ ?_ ?_;rotate_left 2;cbv) | (refine r_ssin hE ?_ ?_ ?_ ?_;rotate_left 3;cbv) | (refine use_draw hE lay_ok (by kernel_rfl) (by kernel_rfl) ?_;cbv) | (refine c_b hE (fun h=>?_) (fun h=>?_)<;>cbv))
   exact And.left (hQ _ _ _ _ _ rfl rfl rfl rfl (by rw [item_1 hr (.inl hm)];exact ret_eq rfl hJ))
 have hm:a.2=false:=by simpa using hm
 have hf1:=sign_first hr hm
 have P2:=peek_l s op hJ
 refine use_ms hE (sh:=shI) P2 rfl rfl rfl rfl rfl (fun b hb=>?_)
 cbv
 refine c_neq hE (fun h=>?_) (fun h=>?_)<;>cbv
 · repeat' (first | (refine r_true hE rfl ?_;cbv) | (refine r_false hE rfl ?_;cbv) | (refine c_eql hE (fun h=>?_) (fun h=>?_)<;>first | (exfalso;omega) | cbv) | (refine c_neq hE (fun h=>?_) (fun h=>?_)<;>first | (exfalso;omega) | cbv) | (refine c_lss hE (fun h=>?_) (fun h=>?_)<;>first | (exfalso;omega) | cbv) | (refine c_leq hE (fun h=>?_) (fun h=>?_)<;>first | (exfalso;omega) | cbv) | (refine c_gtr hE (fun h=>?_) (fun h=>?_)<;>first | (exfalso;omega) | cbv) | (refine c_geq hE (fun h=>?_) (fun h=>?_)<;>first | (exfalso;omega) | cbv) | (refine c_seql hE (fun h=>?_) (fun h=>?_)<;>first | (exfalso;omega) | cbv) | (refine c_sneq hE (fun h=>?_) (fun h=>?_)<;>first | (exfalso;omega) | cbv) | (refine r_sin hE ?_ ?_ ?_;rotate_left 2;cbv) | (refine r_ssin hE ?_ ?_ ?_ ?_;rotate_left 3;cbv) | (refine use_draw hE lay_ok (by kernel_rfl) (by kernel_rfl) ?_;cbv) | (refine c_b hE (fun h=>?_) (fun h=>?_)<;>cbv))
   exact And.left (hQ _ _ _ _ _ rfl rfl rfl rfl (by rw [item_1 hr (.inr (by rw [←hb];exact h))];exact ret_eq rfl hJ))
 have hn:¬(a.2=true∨Rx.pk s.data.toList p≠45):=fun e=>e.elim (fun e=>by rw [hm] at e;cases e) (fun e=>e (by rw [←hb];exact h))
 have hpin:p<s.data.toList.length:=pk_in (by rw [←hb];omega)
 have F2:=fine_sign s.data.toList (p+1)
 have g1:=e_inc hE hJ (by omega)
 have S2:=sign_c s op g1 (by omega) hs
 repeat' (first | (refine r_true hE rfl ?_;cbv) | (refine r_false hE rfl ?_;cbv) | (refine c_eql hE (fun h=>?_) (fun h=>?_)<;>first | (exfalso;omega) | cbv) | (refine c_neq hE (fun h=>?_) (fun h=>?_)<;>first | (exfalso;omega) | cbv) | (refine c_lss hE (fun h=>?_) (fun h=>?_)<;>first | (exfalso;omega) | cbv) | (refine c_leq hE (fun h=>?_) (fun h=>?_)<;>first | (exfalso;omega) | cbv) | (refine c_gtr hE (fun h=>?_) (fun h=>?_)<;>first | (exfalso;omega) | cbv) | (refine c_geq hE (fun h=>?_) (fun h=>?_)<;>first | (exfalso;omega) | cbv) | (refine c_seql hE (fun h=>?_) (fun h=>?_)<;>first | (exfalso;omega) | cbv) | (refine c_sneq hE (fun h=>?_) (fun h=>?_)<;>first | (exfalso;omega) | cbv) | (refine r_sin hE ?_ ?_ ?_;rotate_left 2;cbv) | (refine r_ssin hE ?_ ?_ ?_ ?_;rotate_left 3;cbv) | (refine use_draw hE lay_ok (by kernel_rfl) (by kernel_rfl) ?_;cbv) | (refine c_b hE (fun h=>?_) (fun h=>?_)<;>cbv))
 refine use_rd hE S2 rfl rfl rfl rfl rfl (fine_ne F2) (fun c q K hr2 hK=>?_) (fun e q X hr2 hX=>?_)<;>cbv
 case refine_2=>exact hP _ _ _ rfl rfl (by rw [item_bad2 hr hn hr2];exact pan_eq hX)
 refine use_draw hE lay_ok (by kernel_rfl) (by kernel_rfl) ?_
 cbv
 refine c_b hE (fun hm2=>?_) (fun hm2=>?_)<;>cbv
 · repeat' (first | (refine r_true hE rfl ?_;cbv) | (refine r_false hE rfl ?_;cbv) | (refine c_bT hE hm2 ?_;cbv) | (refine use_thr hE (fail_t _ _) rfl rfl ?_;cbv) | (refine c_eql hE (fun h=>?_) (fun h=>?_)<;>first | (exfalso;omega) | cbv) | (refine c_neq hE (fun h=>?_) (fun h=>?_)<;>first | (exfalso;omega) | cbv) | (refine c_lss hE (fun h=>?_) (fun h=>?_)<;>first | (exfalso;omega) | cbv) | (refine c_leq hE (fun h=>?_) (fun h=>?_)<;>first | (exfalso;omega) | cbv) | (refine c_gtr hE (fun h=>?_) (fun h=>?_)<;>first | (exfalso;omega) | cbv) | (refine c_geq hE (fun h=>?_) (fun h=>?_)<;>first | (exfalso;omega) | cbv) | (refine c_seql hE (fun h=>?_) (fun h=>?_)<;>first | (exfalso;omega) | cbv) | (refine c_sneq hE (fun h=>?_) (fun h=>?_)<;>first | (exfalso;omega) | cbv) | (refine r_sin hE ?_ ?_ ?_;rotate_left 2;cbv) | (refine r_ssin hE ?_ ?_ ?_ ?_;rotate_left 3;cbv) | (refine use_draw hE lay_ok (by kernel_rfl) (by kernel_rfl) ?_;cbv) | (refine c_b hE (fun h=>?_) (fun h=>?_)<;>cbv))
   exact hP _ _ _ rfl rfl (by rw [item_2 hr hn hr2 (.inl hm2)];exact pan_eq g1)
 have hm2:c.2=false:=by simpa using hm2
 have hf2:=sign_first hr2 hm2
 have cvb:∀x y,x=y→0≤y∧y≤255→E.conv .u8 x=(y.toNat:Int):=fun x y e h=>by rw [e];exact conv_byte hE h.1 h.2
 have b1:a.1.first.toNat<256:=by omega
 have b2:c.1.first.toNat<256:=by omega
 repeat' (first | (refine r_true hE rfl ?_;cbv) | (refine r_false hE rfl ?_;cbv) | (refine c_bF hE hm2 ?_;cbv) | (refine use_ps hE (f_first (S:=c.1)) rfl rfl fun x2 hx2=>?_;cbv) | (refine use_ps hE (f_first (S:=a.1)) rfl rfl fun x1 hx1=>?_;cbv) | (refine use_thr hE (fail_t _ _) rfl rfl ?_;cbv) | (refine use_ps hE (f_of (cvb _ _ hx1 hf1) (cvb _ _ hx2 hf2) b1 b2) rfl rfl fun x hx=>?_;cbv) | (refine use_s hE (f_of (cvb _ _ hx1 hf1) (cvb _ _ hx2 hf2) b1 b2) rfl rfl fun x hx=>?_;cbv) | (refine c_eql hE (fun h=>?_) (fun h=>?_)<;>first | (exfalso;omega) | cbv) | (refine c_neq hE (fun h=>?_) (fun h=>?_)<;>first | (exfalso;omega) | cbv) | (refine c_lss hE (fun h=>?_) (fun h=>?_)<;>first | (exfalso;omega) | cbv) | (refine c_leq hE (fun h=>?_) (fun h=>?_)<;>first | (exfalso;omega) | cbv) | (refine c_gtr hE (fun h=>?_) (fun h=>?_)<;>first | (exfalso;omega) | cbv) | (refine c_geq hE (fun h=>?_) (fun h=>?_)<;>first | (exfalso;omega) | cbv) | (refine c_seql hE (fun h=>?_) (fun h=>?_)<;>first | (exfalso;omega) | cbv) | (refine c_sneq hE (fun h=>?_) (fun h=>?_)<;>first | (exfalso;omega) | cbv) | (refine r_sin hE ?_ ?_ ?_;rotate_left 2;cbv) | (refine r_ssin hE ?_ ?_ ?_ ?_;rotate_left 3;cbv) | (refine use_draw hE lay_ok (by kernel_rfl) (by kernel_rfl) ?_;cbv) | (refine c_b hE (fun h=>?_) (fun h=>?_)<;>cbv))
 · exact hP _ _ _ rfl rfl (by rw [item_2 hr hn hr2 (.inr (by omega))];exact pan_eq g1)
 · exact And.left (hQ _ _ _ _ _ rfl rfl rfl rfl (by rw [item_3 hr hn hr2 (fun e=>by rw [hm2] at e;rcases e with e | e<;>first | cases e | omega)];exact ret_eq (by rw [hx];rfl) hK))
end Rd
end Go.Proofs.YtbpihhelojjedaaDoor
namespace Go.Proofs.YtbpihhelojjedaaDoor
open Go Go.RowKit
open Ab
namespace Rd
def setC (S:CSet):List V:=[fI .u64 S.a.toNat,fI .u64 S.b.toNat,fI .u64 S.c.toNat,fI .u64 S.d.toNat]
theorem items_ok {l:List UInt8} {f i p:Nat} {S T:CSet} (h:Rx.item l i=.ok T p):Rx.items l (f+1) S i=if Rx.pk l p=93 then .ok (S.or T) p else Rx.items l f (S.or T) p:=by
 conv=>lhs;unfold Rx.items
 rw [h]
theorem items_bad {l:List UInt8} {f i p:Nat} {S:CSet} {e:Int} (h:Rx.item l i=.bad e p):Rx.items l (f+1) S i=.bad e p:=by
 conv=>lhs;unfold Rx.items
 rw [h]
theorem cls_bad {l:List UInt8} {i j p:Nat} {e:Int} (hj:j=if Rx.pk l i=94 then i+1 else i) (h:Rx.items l (l.length+1) CSet.empty j=.bad e p):Rx.cls l i=.bad e p:=by
 unfold Rx.cls;rw [←hj,h]
theorem cls_ok {l:List UInt8} {i j p:Nat} {S:CSet} (hj:j=if Rx.pk l i=94 then i+1 else i) (h:Rx.items l (l.length+1) CSet.empty j=.ok S p):Rx.cls l i=.ok (if Rx.pk l i=94 then S.not else S) (p+1):=by
 unfold Rx.cls;rw [←hj,h]
def clsI (s:ByteArray) (T:Res CSet) (g:CSet × Nat × Int × Bool):Prop:=
 g.2.2.1=((g.2.1:Nat):Int)∧g.2.1≤s.size∧∃f,s.data.toList.length<g.2.1+f∧(if g.2.2.2=true then Rx.items s.data.toList f g.1 g.2.1 else if Rx.pk s.data.toList g.2.1=93 then .ok g.1 g.2.1 else Rx.items s.data.toList f g.1 g.2.1)=T
theorem clsI_go {s:ByteArray} {T:Res CSet} {S x:CSet} {p q f:Nat} {K:Int} (hf:s.data.toList.length<p+f) (hp:p≤s.size) (h:Rx.items s.data.toList f S p=T) (hr:Rx.item s.data.toList p=.ok x q) (hK:K=((q:Nat):Int)):clsI s T (S.or x,q,K,false):=by
 have hl:s.data.toList.length=s.size:=by simp
 have:=fine_le (fine_item s.data.toList p) hr
 refine ⟨hK,by show q≤s.size;omega,f-1,by show _<q+(f-1);omega,?_⟩
 rw [if_neg (by simp),←h,show f=(f-1)+1 by omega,items_ok hr];rfl
theorem clsI_bad {s:ByteArray} {T:Res CSet} {S:CSet} {p q f:Nat} {e:Int} (hf:s.data.toList.length<p+f) (hp:p≤s.size) (h:Rx.items s.data.toList f S p=T) (hr:Rx.item s.data.toList p=.bad e q):T=.bad e q:=by
 have hl:s.data.toList.length=s.size:=by simp
 rw [←h,show f=(f-1)+1 by omega,items_bad hr]
def clsOrd:Ord:=.two 0 1 (.one 1 (.one 2 (.one 3 (.one 4 .done)))) (.two 0 2 (.one 2 (.one 3 (.one 4 .done))) (.one 0 (.one 3 (.one 4 .done))))
theorem class_c (s:ByteArray) {I:Int} {i:Nat} (op:Int) (hI:I=i) (hi:i≤s.size) (hs:s.size≤1000):Meth Tryd.prog 87 74 (rd s I op) [] (rdOut s op setV (Rx.cls s.data.toList i)):=by
 have hl:s.data.toList.length=s.size:=by simp
 have hin:=fun h=>pk_in (l:=s.data.toList) (i:=i) h
 have P1:=peek_l s op hI
 obtain ⟨j,hj⟩:∃j,j=if Rx.pk s.data.toList i=94 then i+1 else i:=⟨_,rfl⟩
 obtain ⟨T,hT⟩:∃T,T=Rx.items s.data.toList (s.data.toList.length+1) CSet.empty j:=⟨_,rfl⟩
 have sb:=fun e p (h:T=.bad e p)=>cls_bad hj (hT.symm.trans h)
 have so:=fun S p (h:T=.ok S p)=>cls_ok hj (hT.symm.trans h)
 obtain ⟨b,hb⟩:∃b,b=Rx.pk s.data.toList i:=⟨_,rfl⟩
 rw [←hb] at hin hj P1 so
 refine methO_of lay_ok (Tryd.call87) (Tryd.func87) rfl ?_;intro A E Q hE hf hQ hP
 cbv
 repeat' (first | (refine r_true hE rfl ?_;cbv) | (refine r_false hE rfl ?_;cbv) | (refine use_meth hE P1 rfl rfl rfl rfl rfl ?_;cbv) | (refine c_eql hE (fun h=>?_) (fun h=>?_)<;>first | (exfalso;omega) | cbv) | (refine c_neq hE (fun h=>?_) (fun h=>?_)<;>first | (exfalso;omega) | cbv) | (refine c_lss hE (fun h=>?_) (fun h=>?_)<;>first | (exfalso;omega) | cbv) | (refine c_leq hE (fun h=>?_) (fun h=>?_)<;>first | (exfalso;omega) | cbv) | (refine c_gtr hE (fun h=>?_) (fun h=>?_)<;>first | (exfalso;omega) | cbv) | (refine c_geq hE (fun h=>?_) (fun h=>?_)<;>first | (exfalso;omega) | cbv) | (refine c_seql hE (fun h=>?_) (fun h=>?_)<;>first | (exfalso;omega) | cbv) | (refine c_sneq hE (fun h=>?_) (fun h=>?_)<;>first | (exfalso;omega) | cbv) | (refine r_sin hE ?_ ?_ ?_;rotate_left 2;cbv) | (refine r_ssin hE ?_ ?_ ?_ ?_;rotate_left 3;cbv) | (refine use_draw hE lay_ok (by kernel_rfl) (by kernel_rfl) ?_;cbv) | (refine c_b hE (fun h=>?_) (fun h=>?_)<;>cbv))
 · have q1:b=94:=h
   rw [if_pos q1] at hj
   have hlt:=hin (by omega)
   have g1:=e_inc hE hI (by omega)
   refine use_for hE lay_ok 3 (fun g:CSet × Nat × Int × Bool=>[(5,fB g.2.2.2)]) (fun g=>[(0,.box 74 (rd s g.2.2.1 op)),(2,.box 32 (setC g.1))]) (clsI s T) (fun g=>s.size-g.2.1) (CSet.empty,i+1,E.ar .add .i64 I 1,true) ⟨g1,by show i+1≤s.size;omega,s.data.toList.length+1,by show _<i+1+_;omega,by rw [if_pos rfl,hT,hj]⟩ (by cbv;repeat' first | exact trivial | rfl | constructor) ?_
   rintro ⟨S,p,J,fst⟩ ⟨hJ,hp,f,hf1,hf2⟩ Q' hN hR hX
   have hJ:J=((p:Nat):Int):=hJ
   have hp:p≤s.size:=hp
   have hf1:s.data.toList.length<p+f:=hf1
   have hf2:(if fst=true then Rx.items s.data.toList f S p else if Rx.pk s.data.toList p=93 then .ok S p else Rx.items s.data.toList f S p)=T:=hf2
   have P2:=peek_l s op hJ
   have I1:=item_c s op hJ hp hs
   have F1:=fine_ne (fine_item s.data.toList p)
   have mu:∀{x q},Rx.item s.data.toList p=.ok x q→s.size-q<s.size-p:=fun hr=>by have:=fine_le (fine_item s.data.toList p) hr;omega
   cbv
   refine c_b hE (fun hm=>?_) (fun hm=>?_)<;>cbv
   · have hf2:Rx.items s.data.toList f S p=T:=by rw [←hf2,if_pos hm]
     repeat' (first | (refine r_true hE rfl ?_;cbv) | (refine r_false hE rfl ?_;cbv) | (refine use_ord hE lay_ok (by kernel_rfl) clsOrd (by kernel_rfl) (by decide) ?_<;>cbv) | (refine And.intro ?_ ?_<;>cbv) | (refine use_rd hE I1 rfl rfl rfl rfl rfl F1 (fun x q K hr hK=>?_) (fun e q X hr hX=>?_)<;>cbv) | (refine use_s hE (f_or S x) rfl rfl fun y hy=>?_;cbv) | (refine c_eql hE (fun h=>?_) (fun h=>?_)<;>first | (exfalso;omega) | cbv) | (refine c_neq hE (fun h=>?_) (fun h=>?_)<;>first | (exfalso;omega) | cbv) | (refine c_lss hE (fun h=>?_) (fun h=>?_)<;>first | (exfalso;omega) | cbv) | (refine c_leq hE (fun h=>?_) (fun h=>?_)<;>first | (exfalso;omega) | cbv) | (refine c_gtr hE (fun h=>?_) (fun h=>?_)<;>first | (exfalso;omega) | cbv) | (refine c_geq hE (fun h=>?_) (fun h=>?_)<;>first | (exfalso;omega) | cbv) | (refine c_seql hE (fun h=>?_) (fun h=>?_)<;>first | (exfalso;omega) | cbv) | (refine c_sneq hE (fun h=>?_) (fun h=>?_)<;>first | (exfalso;omega) | cbv) | (refine r_sin hE ?_ ?_ ?_;rotate_left 2;cbv) | (refine r_ssin hE ?_ ?_ ?_ ?_;rotate_left 3;cbv) | (refine use_draw hE lay_ok (by kernel_rfl) (by kernel_rfl) ?_;cbv) | (refine c_b hE (fun h=>?_) (fun h=>?_)<;>cbv))
     all_goals first | (refine hN _ (y,q,K,false) (by rw [hy];exact clsI_go hf1 hp hf2 hr hK) (mu hr) ?_;cbv;repeat' first | exact trivial | rfl | constructor) | exact hP _ _ _ rfl rfl (by rw [sb _ _ (clsI_bad hf1 hp hf2 hr)];exact pan_eq hX)
   rw [if_neg (by simp [hm])] at hf2
   refine use_ms hE (sh:=shI) P2 rfl rfl rfl rfl rfl (fun b2 hb2=>?_)
   cbv
   refine c_neq hE (fun h2=>?_) (fun h2=>?_)<;>cbv
   · have hf2:Rx.items s.data.toList f S p=T:=by rw [←hf2,if_neg (by rw [←hb2];exact h2)]
     repeat' (first | (refine r_true hE rfl ?_;cbv) | (refine r_false hE rfl ?_;cbv) | (refine use_ord hE lay_ok (by kernel_rfl) clsOrd (by kernel_rfl) (by decide) ?_<;>cbv) | (refine And.intro ?_ ?_<;>cbv) | (refine use_rd hE I1 rfl rfl rfl rfl rfl F1 (fun x q K hr hK=>?_) (fun e q X hr hX=>?_)<;>cbv) | (refine use_s hE (f_or S x) rfl rfl fun y hy=>?_;cbv) | (refine c_eql hE (fun h=>?_) (fun h=>?_)<;>first | (exfalso;omega) | cbv) | (refine c_neq hE (fun h=>?_) (fun h=>?_)<;>first | (exfalso;omega) | cbv) | (refine c_lss hE (fun h=>?_) (fun h=>?_)<;>first | (exfalso;omega) | cbv) | (refine c_leq hE (fun h=>?_) (fun h=>?_)<;>first | (exfalso;omega) | cbv) | (refine c_gtr hE (fun h=>?_) (fun h=>?_)<;>first | (exfalso;omega) | cbv) | (refine c_geq hE (fun h=>?_) (fun h=>?_)<;>first | (exfalso;omega) | cbv) | (refine c_seql hE (fun h=>?_) (fun h=>?_)<;>first | (exfalso;omega) | cbv) | (refine c_sneq hE (fun h=>?_) (fun h=>?_)<;>first | (exfalso;omega) | cbv) | (refine r_sin hE ?_ ?_ ?_;rotate_left 2;cbv) | (refine r_ssin hE ?_ ?_ ?_ ?_;rotate_left 3;cbv) | (refine use_draw hE lay_ok (by kernel_rfl) (by kernel_rfl) ?_;cbv) | (refine c_b hE (fun h=>?_) (fun h=>?_)<;>cbv))
     all_goals first | (refine hN _ (y,q,K,false) (by rw [hy];exact clsI_go hf1 hp hf2 hr hK) (mu hr) ?_;cbv;repeat' first | exact trivial | rfl | constructor) | exact hP _ _ _ rfl rfl (by rw [sb _ _ (clsI_bad hf1 hp hf2 hr)];exact pan_eq hX)
   · rw [if_pos (by rw [←hb2];exact h2)] at hf2
     have g2:=e_inc hE hJ (by omega)
     repeat' (first | (refine r_true hE rfl ?_;cbv) | (refine r_false hE rfl ?_;cbv) | (refine c_eql hE (fun h=>?_) (fun h=>?_)<;>first | (exfalso;omega) | cbv) | (refine c_neq hE (fun h=>?_) (fun h=>?_)<;>first | (exfalso;omega) | cbv) | (refine c_lss hE (fun h=>?_) (fun h=>?_)<;>first | (exfalso;omega) | cbv) | (refine c_leq hE (fun h=>?_) (fun h=>?_)<;>first | (exfalso;omega) | cbv) | (refine c_gtr hE (fun h=>?_) (fun h=>?_)<;>first | (exfalso;omega) | cbv) | (refine c_geq hE (fun h=>?_) (fun h=>?_)<;>first | (exfalso;omega) | cbv) | (refine c_seql hE (fun h=>?_) (fun h=>?_)<;>first | (exfalso;omega) | cbv) | (refine c_sneq hE (fun h=>?_) (fun h=>?_)<;>first | (exfalso;omega) | cbv) | (refine r_sin hE ?_ ?_ ?_;rotate_left 2;cbv) | (refine r_ssin hE ?_ ?_ ?_ ?_;rotate_left 3;cbv) | (refine use_draw hE lay_ok (by kernel_rfl) (by kernel_rfl) ?_;cbv) | (refine c_b hE (fun h=>?_) (fun h=>?_)<;>cbv))
     refine hX _ _ ?_
     cbv
     repeat' (first | (refine r_true hE rfl ?_;cbv) | (refine r_false hE rfl ?_;cbv) | (refine use_s hE (f_not S) rfl rfl fun y hy=>?_;cbv) | (refine c_eql hE (fun h=>?_) (fun h=>?_)<;>first | (exfalso;omega) | cbv) | (refine c_neq hE (fun h=>?_) (fun h=>?_)<;>first | (exfalso;omega) | cbv) | (refine c_lss hE (fun h=>?_) (fun h=>?_)<;>first | (exfalso;omega) | cbv) | (refine c_leq hE (fun h=>?_) (fun h=>?_)<;>first | (exfalso;omega) | cbv) | (refine c_gtr hE (fun h=>?_) (fun h=>?_)<;>first | (exfalso;omega) | cbv) | (refine c_geq hE (fun h=>?_) (fun h=>?_)<;>first | (exfalso;omega) | cbv) | (refine c_seql hE (fun h=>?_) (fun h=>?_)<;>first | (exfalso;omega) | cbv) | (refine c_sneq hE (fun h=>?_) (fun h=>?_)<;>first | (exfalso;omega) | cbv) | (refine r_sin hE ?_ ?_ ?_;rotate_left 2;cbv) | (refine r_ssin hE ?_ ?_ ?_ ?_;rotate_left 3;cbv) | (refine use_draw hE lay_ok (by kernel_rfl) (by kernel_rfl) ?_;cbv) | (refine c_b hE (fun h=>?_) (fun h=>?_)<;>cbv))
     exact And.left (hQ _ _ _ _ _ rfl rfl rfl rfl (by rw [so _ _ hf2.symm,if_pos q1];exact ret_eq (by rw [hy];rfl) g2))
 · have q1:¬ b=94:=h
   rw [if_neg q1] at hj
   refine use_for hE lay_ok 3 (fun g:CSet × Nat × Int × Bool=>[(5,fB g.2.2.2)]) (fun g=>[(0,.box 74 (rd s g.2.2.1 op)),(2,.box 32 (setC g.1))]) (clsI s T) (fun g=>s.size-g.2.1) (CSet.empty,i,I,true) ⟨hI,hi,s.data.toList.length+1,by show _<i+_;omega,by rw [if_pos rfl,hT,hj]⟩ (by cbv;repeat' first | exact trivial | rfl | constructor) ?_
   rintro ⟨S,p,J,fst⟩ ⟨hJ,hp,f,hf1,hf2⟩ Q' hN hR hX
   have hJ:J=((p:Nat):Int):=hJ
   have hp:p≤s.size:=hp
   have hf1:s.data.toList.length<p+f:=hf1
   have hf2:(if fst=true then Rx.items s.data.toList f S p else if Rx.pk s.data.toList p=93 then .ok S p else Rx.items s.data.toList f S p)=T:=hf2
   have P2:=peek_l s op hJ
   have I1:=item_c s op hJ hp hs
   have F1:=fine_ne (fine_item s.data.toList p)
   have mu:∀{x q},Rx.item s.data.toList p=.ok x q→s.size-q<s.size-p:=fun hr=>by have:=fine_le (fine_item s.data.toList p) hr;omega
   cbv
   refine c_b hE (fun hm=>?_) (fun hm=>?_)<;>cbv
   · have hf2:Rx.items s.data.toList f S p=T:=by rw [←hf2,if_pos hm]
     repeat' (first | (refine r_true hE rfl ?_;cbv) | (refine r_false hE rfl ?_;cbv) | (refine use_ord hE lay_ok (by kernel_rfl) clsOrd (by kernel_rfl) (by decide) ?_<;>cbv) | (refine And.intro ?_ ?_<;>cbv) | (refine use_rd hE I1 rfl rfl rfl rfl rfl F1 (fun x q K hr hK=>?_) (fun e q X hr hX=>?_)<;>cbv) | (refine use_s hE (f_or S x) rfl rfl fun y hy=>?_;cbv) | (refine c_eql hE (fun h=>?_) (fun h=>?_)<;>first | (exfalso;omega) | cbv) | (refine c_neq hE (fun h=>?_) (fun h=>?_)<;>first | (exfalso;omega) | cbv) | (refine c_lss hE (fun h=>?_) (fun h=>?_)<;>first | (exfalso;omega) | cbv) | (refine c_leq hE (fun h=>?_) (fun h=>?_)<;>first | (exfalso;omega) | cbv) | (refine c_gtr hE (fun h=>?_) (fun h=>?_)<;>first | (exfalso;omega) | cbv) | (refine c_geq hE (fun h=>?_) (fun h=>?_)<;>first | (exfalso;omega) | cbv) | (refine c_seql hE (fun h=>?_) (fun h=>?_)<;>first | (exfalso;omega) | cbv) | (refine c_sneq hE (fun h=>?_) (fun h=>?_)<;>first | (exfalso;omega) | cbv) | (refine r_sin hE ?_ ?_ ?_;rotate_left 2;cbv) | (refine r_ssin hE ?_ ?_ ?_ ?_;rotate_left 3;cbv) | (refine use_draw hE lay_ok (by kernel_rfl) (by kernel_rfl) ?_;cbv) | (refine c_b hE (fun h=>?_) (fun h=>?_)<;>cbv))
     all_goals first | (refine hN _ (y,q,K,false) (by rw [hy];exact clsI_go hf1 hp hf2 hr hK) (mu hr) ?_;cbv;repeat' first | exact trivial | rfl | constructor) | exact hP _ _ _ rfl rfl (by rw [sb _ _ (clsI_bad hf1 hp hf2 hr)];exact pan_eq hX)
   rw [if_neg (by simp [hm])] at hf2
   refine use_ms hE (sh:=shI) P2 rfl rfl rfl rfl rfl (fun b2 hb2=>?_)
   cbv
   refine c_neq hE (fun h2=>?_) (fun h2=>?_)<;>cbv
   · have hf2:Rx.items s.data.toList f S p=T:=by rw [←hf2,if_neg (by rw [←hb2];exact h2)]
     repeat' (first | (refine r_true hE rfl ?_;cbv) | (refine r_false hE rfl ?_;cbv) | (refine use_ord hE lay_ok (by kernel_rfl) clsOrd (by kernel_rfl) (by decide) ?_<;>cbv) | (refine And.intro ?_ ?_<;>cbv) | (refine use_rd hE I1 rfl rfl rfl rfl rfl F1 (fun x q K hr hK=>?_) (fun e q X hr hX=>?_)<;>cbv) | (refine use_s hE (f_or S x) rfl rfl fun y hy=>?_;cbv) | (refine c_eql hE (fun h=>?_) (fun h=>?_)<;>first | (exfalso;omega) | cbv) | (refine c_neq hE (fun h=>?_) (fun h=>?_)<;>first | (exfalso;omega) | cbv) | (refine c_lss hE (fun h=>?_) (fun h=>?_)<;>first | (exfalso;omega) | cbv) | (refine c_leq hE (fun h=>?_) (fun h=>?_)<;>first | (exfalso;omega) | cbv) | (refine c_gtr hE (fun h=>?_) (fun h=>?_)<;>first | (exfalso;omega) | cbv) | (refine c_geq hE (fun h=>?_) (fun h=>?_)<;>first | (exfalso;omega) | cbv) | (refine c_seql hE (fun h=>?_) (fun h=>?_)<;>first | (exfalso;omega) | cbv) | (refine c_sneq hE (fun h=>?_) (fun h=>?_)<;>first | (exfalso;omega) | cbv) | (refine r_sin hE ?_ ?_ ?_;rotate_left 2;cbv) | (refine r_ssin hE ?_ ?_ ?_ ?_;rotate_left 3;cbv) | (refine use_draw hE lay_ok (by kernel_rfl) (by kernel_rfl) ?_;cbv) | (refine c_b hE (fun h=>?_) (fun h=>?_)<;>cbv))
     all_goals first | (refine hN _ (y,q,K,false) (by rw [hy];exact clsI_go hf1 hp hf2 hr hK) (mu hr) ?_;cbv;repeat' first | exact trivial | rfl | constructor) | exact hP _ _ _ rfl rfl (by rw [sb _ _ (clsI_bad hf1 hp hf2 hr)];exact pan_eq hX)
   · rw [if_pos (by rw [←hb2];exact h2)] at hf2
     have g2:=e_inc hE hJ (by omega)
     repeat' (first | (refine r_true hE rfl ?_;cbv) | (refine r_false hE rfl ?_;cbv) | (refine c_eql hE (fun h=>?_) (fun h=>?_)<;>first | (exfalso;omega) | cbv) | (refine c_neq hE (fun h=>?_) (fun h=>?_)<;>first | (exfalso;omega) | cbv) | (refine c_lss hE (fun h=>?_) (fun h=>?_)<;>first | (exfalso;omega) | cbv) | (refine c_leq hE (fun h=>?_) (fun h=>?_)<;>first | (exfalso;omega) | cbv) | (refine c_gtr hE (fun h=>?_) (fun h=>?_)<;>first | (exfalso;omega) | cbv) | (refine c_geq hE (fun h=>?_) (fun h=>?_)<;>first | (exfalso;omega) | cbv) | (refine c_seql hE (fun h=>?_) (fun h=>?_)<;>first | (exfalso;omega) | cbv) | (refine c_sneq hE (fun h=>?_) (fun h=>?_)<;>first | (exfalso;omega) | cbv) | (refine r_sin hE ?_ ?_ ?_;rotate_left 2;cbv) | (refine r_ssin hE ?_ ?_ ?_ ?_;rotate_left 3;cbv) | (refine use_draw hE lay_ok (by kernel_rfl) (by kernel_rfl) ?_;cbv) | (refine c_b hE (fun h=>?_) (fun h=>?_)<;>cbv))
     refine hX _ _ ?_
     cbv
     repeat' (first | (refine r_true hE rfl ?_;cbv) | (refine r_false hE rfl ?_;cbv) | (refine use_s hE (f_not S) rfl rfl fun y hy=>?_;cbv) | (refine c_eql hE (fun h=>?_) (fun h=>?_)<;>first | (exfalso;omega) | cbv) | (refine c_neq hE (fun h=>?_) (fun h=>?_)<;>first | (exfalso;omega) | cbv) | (refine c_lss hE (fun h=>?_) (fun h=>?_)<;>first | (exfalso;omega) | cbv) | (refine c_leq hE (fun h=>?_) (fun h=>?_)<;>first | (exfalso;omega) | cbv) | (refine c_gtr hE (fun h=>?_) (fun h=>?_)<;>first | (exfalso;omega) | cbv) | (refine c_geq hE (fun h=>?_) (fun h=>?_)<;>first | (exfalso;omega) | cbv) | (refine c_seql hE (fun h=>?_) (fun h=>?_)<;>first | (exfalso;omega) | cbv) | (refine c_sneq hE (fun h=>?_) (fun h=>?_)<;>first | (exfalso;omega) | cbv) | (refine r_sin hE ?_ ?_ ?_;rotate_left 2;cbv) | (refine r_ssin hE ?_ ?_ ?_ ?_;rotate_left 3;cbv) | (refine use_draw hE lay_ok (by kernel_rfl) (by kernel_rfl) ?_;cbv) | (refine c_b hE (fun h=>?_) (fun h=>?_)<;>cbv))
     exact And.left (hQ _ _ _ _ _ rfl rfl rfl rfl (by rw [so _ _ hf2.symm,if_neg q1];exact ret_eq rfl g2))
end Rd
end Go.Proofs.YtbpihhelojjedaaDoor
