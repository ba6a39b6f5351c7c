/- Texts that the proof leans on. -/
import Derived.Test.YtjhbgkakhaonaaaGreatDoorK336
set_option linter.unusedVariables false
set_option linter.unusedSimpArgs false
set_option maxRecDepth 100000
set_option maxHeartbeats 4000000
namespace Go.Proofs.YtjhbgkakhaonaaaGreatDoor
open Go Go.RowKit
open Ab Sh
namespace Gn
theorem slices_RepeatI_w {N:Nat} {p0:List Int} {p1:Int} {r:List Int} (h:slices_RepeatI_g N p0 p1=some r):FunL Tryz.prog 46 [.t (.slc (rw _ (cI .i64) p0)),fI .i64 p1] 3 1 (rw _ (cI .i64) r):=by
 refine list_w lay_ok Tryz.call46 Tryz.func46 rfl ?_
 intro A W E Q R hE hR hf hQ;rcases W with ⟨ar,cm,conj,cv,sl,sc,ct,sa,ss,ll,_,_,_,_,mi,mx,_,_,_,_,_⟩
 rw [←hR]
 unfold slices_RepeatI_g at h
 rw [q_cm hE,q_cv hE,q_ll hE,q_mi hE,←hR] at h
 cbv
 refine L_cd hE lay_ok ?_;cbv
 refine L_if hE h (fun h=>?_) (fun h=>?_)<;>cbv
 · refine r_ifc hE Tryz.underlying9 rfl ?_;cbv
   exact nomatch h
 refine L_call hE hR h (fun _ e=>math_bits_Mul_w e) rfl rfl fun a1 h=>?_;cbv
 refine L_rgJ hE lay_ok h 0 (fun j1:Bool=>[(26,fB j1)]) (fun j1=>[]) (fun j1 h=>?_) (fun j1 h=>?_)<;>cbv
 · refine L_if hE h (fun h=>?_) (fun h=>?_)<;>cbv
   · cases h;(cbv;(try simp only [e_rnil hR]);repeat' (first | exact trivial | exact rfl | exact Or.inr trivial | apply And.intro))
   cases h;(cbv;(try simp only [e_rnil hR]);repeat' (first | exact trivial | exact rfl | exact Or.inr trivial | apply And.intro))
 refine L_cd hE lay_ok ?_;cbv
 refine L_if hE h (fun h=>?_) (fun h=>?_)<;>cbv
 · refine r_ifc hE Tryz.underlying9 rfl ?_;cbv
   exact nomatch h
 refine L_zro hE hR h (by decide) fun l2 e h=>?_;cbv at e;rw [e];clear e
 refine L_cpy hE hR h (fun _=>rfl) fun l3 e h=>?_;cbv at e;rw [e];clear e
 refine L_for hE lay_ok 1 (fun g:Int ×(List Int)× Nat=>[(7,.lst 0),(8,fI .i64 g.1),(30,.lst 0),(31,.lst 0)]) (fun g=>[(0,.list 3 1 (R _ (cI .i64) g.2.1))]) (fun g=>slices_RepeatI_l1 g.2.2 g.1 g.2.1=some r) (fun g=>g.2.2) (_,_,N) h ?_ ?_
 · (cbv;(try simp only [e_rnil hR]);repeat' (first | exact trivial | exact rfl | exact Or.inr trivial | apply And.intro))
 rintro ⟨v4,v5,m1⟩ h Q1 hN1 hT1 hX1
 have h:slices_RepeatI_l1 m1 v4 v5=some r:=h
 cases m1 with
 | zero=>exact nomatch (show (none:Option _)=some _ from h)
 | succ m1=>
 rw [slices_RepeatI_l1] at h
 rw [q_ar hE,q_cm hE,q_ll hE,q_mi hE,←hR] at h
 cbv
 refine L_if hE h (fun h=>?_) (fun h=>?_)<;>cbv
 · refine L_fxC hE hR lay_ok (by kernel_rfl) 8 7 [0] [] 0 h (fun _=>rfl) rfl rfl rfl rfl rfl rfl rfl rfl rfl (by kernel_rfl) (fun _=>by kernel_rfl) (fun _=>by kernel_rfl) (by cbv;repeat' (first | exact rfl | trivial | apply And.intro)) (by cbv;repeat' (first | exact rfl | trivial | apply And.intro)) fun l6 h KK hKK=>?_;cbv
   refine L_wsin hE hR h (fun _=>rfl) fun h=>?_
   refine L_wsin hE hR h (fun _=>rfl) fun h=>?_
   (repeat' apply And.intro);(try (any_goals (first | exact rfl | trivial)));refine hKK _ ?_;cbv
   refine hN1 _ (_,_,m1) [] h (Nat.lt_succ_self _) trivial ?_;(cbv;(try simp only [e_rnil hR]);repeat' (first | exact trivial | exact rfl | exact Or.inr trivial | apply And.intro))
 refine hX1 _ _ ?_;cbv
 exact And.left (hQ _ _ rfl (.inl ⟨_,rfl,by cases h;subst hR;rfl⟩))
theorem dfa_Word_w {N:Nat} {p0:ByteArray} {r:GDfa × Int} (h:dfa_Word_g N p0=some r):FunS Tryz.prog 19 [fS p0] (dfa_Word_s rw) r:=by
 refine fun_w lay_ok Tryz.call19 Tryz.func19 rfl ?_
 intro A W E Q R hE hR hf hQ;rcases W with ⟨ar,cm,conj,cv,sl,sc,ct,sa,ss,ll,_,_,_,_,mi,mx,_,_,_,_,_⟩
 unfold dfa_Word_g at h
 rw [q_cm hE,q_sl hE] at h
 cbv
 refine L_if hE h (fun h=>?_) (fun h=>?_)<;>cbv
 · exact And.left (hQ _ _ _ rfl rfl (by cases h;subst hR;rfl))
 refine L_for hE lay_ok 1 (fun g:Int ×(List CSet)× Nat=>[(4,.lst 1),(16,fI .i64 g.1)]) (fun g=>[(1,.list 45 4 (R _ cSet g.2.1))]) (fun g=>dfa_Word_l1 N p0 g.2.2 g.1 g.2.1=some r) (fun g=>g.2.2) (_,_,N) h ?_ ?_
 · (cbv;(try simp only [e_rnil hR]);repeat' (first | exact trivial | exact rfl | exact Or.inr trivial | apply And.intro))
 rintro ⟨v1,v2,m1⟩ h Q1 hN1 hT1 hX1
 have h:dfa_Word_l1 N p0 m1 v1 v2=some r:=h
 cases m1 with
 | zero=>exact nomatch (show (none:Option _)=some _ from h)
 | succ m1=>
 rw [dfa_Word_l1] at h
 rw [q_ar hE,q_cm hE,q_sl hE,q_sa hE,q_ss hE] at h
 cbv
 refine L_if hE h (fun h=>?_) (fun h=>?_)<;>cbv
 · refine L_whole hE lay_ok (by kernel_rfl) (by kernel_rfl) ?_;cbv
   refine L_ssin hE h fun h=>?_
   refine L_sin hE h fun h=>?_
   refine L_pcall hE hR h (fun _ e=>strings_IndexByte_w e) rfl rfl fun a3 h=>?_;cbv
   refine L_cdJ hE lay_ok h 10 (fun j4:(List CSet)=>[(4,.lst 1)]) (fun j4=>[(1,.list 45 4 (R _ cSet j4))]) (fun j4 h=>?_) (fun j4 h=>?_)<;>cbv
   · refine L_if hE h (fun h=>?_) (fun h=>?_)<;>cbv
     · refine L_tail hE lay_ok (by kernel_rfl) 9 (by kernel_rfl) ?_;cbv
       refine L_sin hE h fun h=>?_
       refine L_sin hE h fun h=>?_
       refine L_pcall hE hR h (fun _ e=>charset_Of_w e) rfl rfl fun a4 h=>?_;cbv
       refine L_appL hE hR h rfl (hf _) (fun _=>rfl) (by decide) fun l5 e h=>?_;cbv at e;rw [e];clear e
       cases h;(cbv;(try simp only [e_rnil hR]);repeat' (first | exact trivial | exact rfl | exact Or.inr trivial | apply And.intro))
     cases h;(cbv;(try simp only [e_rnil hR]);repeat' (first | exact trivial | exact rfl | exact Or.inr trivial | apply And.intro))
   refine hN1 _ (_,_,m1) [] h (Nat.lt_succ_self _) trivial ?_;(cbv;(try simp only [e_rnil hR]);repeat' (first | exact trivial | exact rfl | exact Or.inr trivial | apply And.intro))
 refine hX1 _ _ ?_;cbv
 refine L_give hE hR 1 h (fun _ e=>blocks_Of_w e) rfl rfl (hf _) rfl (by subst hR;rfl) fun a6 h=>?_;cbv
 refine L_call hE hR h (fun _ e=>blocks_Count_w e) (by subst hR;rfl) rfl fun a7 h=>?_;cbv
 refine L_opnL hE 2 1 4 1 rfl rfl ?_;cbv
 refine L_opnL hE 2 3 23 1 rfl rfl ?_;cbv
 refine L_for hE lay_ok 5 (fun g:Int ×(List Bool)×(List (List Int))× Nat=>[(47,fI .i64 g.1)]) (fun g=>[(3,.list 4 1 (R _ cB g.2.1)),(4,.list 23 1 (R _ (cLs (cI .i64)) g.2.2.1))]) (fun g=>dfa_Word_l2 N p0 a6 a7 g.2.2.2 g.1 g.2.1 g.2.2.1=some r) (fun g=>g.2.2.2) (_,_,_,N) h ?_ ?_
 · (cbv;(try simp only [e_rnil hR]);repeat' (first | exact trivial | exact rfl | exact Or.inr trivial | apply And.intro))
 rintro ⟨v8,v9,v10,m2⟩ h Q2 hN2 hT2 hX2
 have h:dfa_Word_l2 N p0 a6 a7 m2 v8 v9 v10=some r:=h
 cases m2 with
 | zero=>exact nomatch (show (none:Option _)=some _ from h)
 | succ m2=>
 rw [dfa_Word_l2] at h
 rw [q_ar hE,q_cm hE,q_sl hE,q_sa hE] at h
 cbv
 refine L_if hE h (fun h=>?_) (fun h=>?_)<;>cbv
 · refine L_listB hE hR h (fun _ e=>slices_RepeatI_w e) rfl (by subst hR;rfl) flat_I fun l11 h=>?_;cbv
   refine L_cdJ hE lay_ok h 7 (fun j6:(List Int)=>[]) (fun j6=>[(6,.list 3 1 (R _ (cI .i64) j6))]) (fun j6 h=>?_) (fun j6 h=>?_)<;>cbv
   · refine L_if hE h (fun h=>?_) (fun h=>?_)<;>cbv
     · refine L_tail hE lay_ok (by kernel_rfl) 11 (by kernel_rfl) ?_;cbv
       refine L_sin hE h fun h=>?_
       refine L_row hE hR h fun r12 h=>?_;cbv
       refine L_row hE hR h fun r13 h=>?_;cbv
       refine L_row hE hR h fun r14 h=>?_;cbv
       refine L_put hE hR h fun l15 e h=>?_;cbv at e;rw [e];clear e
       cases h;(cbv;(try simp only [e_rnil hR]);repeat' (first | exact trivial | exact rfl | exact Or.inr trivial | apply And.intro))
     cases h;(cbv;(try simp only [e_rnil hR]);repeat' (first | exact trivial | exact rfl | exact Or.inr trivial | apply And.intro))
   refine ⟨(hf _),?_⟩
   refine L_appL hE hR h (by subst hR;rfl) (hf _) (fun _=>rfl) (by decide) fun l16 e h=>?_;cbv at e;rw [e];clear e
   refine L_appL hE hR h rfl (hf _) (fun _=>rfl) (by decide) fun l17 e h=>?_;cbv at e;rw [e];clear e
   refine hN2 _ (_,_,_,m2) [] h (Nat.lt_succ_self _) trivial ?_;(cbv;(try simp only [e_rnil hR]);repeat' (first | exact trivial | exact rfl | exact Or.inr trivial | apply And.intro))
 refine hX2 _ _ ?_;cbv
 exact And.left (hQ _ _ _ rfl rfl (by cases h;subst hR;rfl))
theorem regex_times_w {p0:Int} {p1:Int} {r:Bool} (h:regex_times_g p0 p1=some r):FunS Tryz.prog 72 [fI .i64 p0,fI .i64 p1] (regex_times_s rw) r:=by
 refine fun_w lay_ok Tryz.call72 Tryz.func72 rfl ?_
 intro A W E Q R hE hR hf hQ;rcases W with ⟨ar,cm,conj,cv,sl,sc,ct,sa,ss,ll,_,_,_,_,mi,mx,_,_,_,_,_⟩
 unfold regex_times_g at h
 rw [q_cm hE,q_mx hE] at h
 cbv
 refine L_rgJ hE lay_ok h 0 (fun j1:Bool=>[(10,fB j1)]) (fun j1=>[]) (fun j1 h=>?_) (fun j1 h=>?_)<;>cbv
 · refine L_if hE h (fun h=>?_) (fun h=>?_)<;>cbv
   · cases h;(cbv;(try simp only [e_rnil hR]);repeat' (first | exact trivial | exact rfl | exact Or.inr trivial | apply And.intro))
   cases h;(cbv;(try simp only [e_rnil hR]);repeat' (first | exact trivial | exact rfl | exact Or.inr trivial | apply And.intro))
 refine L_if hE h (fun h=>?_) (fun h=>?_)<;>cbv
 · exact And.left (hQ _ _ _ rfl rfl (by cases h;subst hR;rfl))
 refine L_rgJ hE lay_ok h 0 (fun j2:Bool=>[(4,fB j2)]) (fun j2=>[]) (fun j2 h=>?_) (fun j2 h=>?_)<;>cbv
 · refine L_if hE h (fun h=>?_) (fun h=>?_)<;>cbv
   · cases h;(cbv;(try simp only [e_rnil hR]);repeat' (first | exact trivial | exact rfl | exact Or.inr trivial | apply And.intro))
   refine L_if hE h (fun h=>?_) (fun h=>?_)<;>cbv
   · cases h;(cbv;(try simp only [e_rnil hR]);repeat' (first | exact trivial | exact rfl | exact Or.inr trivial | apply And.intro))
   cases h;(cbv;(try simp only [e_rnil hR]);repeat' (first | exact trivial | exact rfl | exact Or.inr trivial | apply And.intro))
 exact And.left (hQ _ _ _ rfl rfl (by cases h;subst hR;rfl))
theorem regex_Right_w:∀{N:Nat} {p0:Node} {r:Bool},regex_Right_g N p0=some r→FunS Tryz.prog 48 [.agg [fI .i64 p0.kind,fI .u64 (p0.set.a.toNat:Int),fI .u64 (p0.set.b.toNat:Int),fI .u64 (p0.set.c.toNat:Int),fI .u64 (p0.set.d.toNat:Int),.t (.slc (rw _ nodeRow p0.kids)),fI .i64 p0.min,fI .i64 p0.max]] (regex_Right_s rw) r:=by
 intro N
 induction N with
 | zero=>intros;rename_i h;exact nomatch (show (none:Option _)=some _ from h)
 | succ N ih=>
 intro p0 r h
 refine fun_w lay_ok Tryz.call48 Tryz.func48 rfl ?_
 intro A W E Q R hE hR hf hQ;rcases W with ⟨ar,cm,conj,cv,sl,sc,ct,sa,ss,ll,_,_,_,_,mi,mx,_,_,_,_,_⟩
 rw [←hR]
 rw [regex_Right_g] at h
 skip
 cbv
 refine L_for hE lay_ok 1 (fun g:Int × Nat=>[(2,fB false),(8,fI .i64 g.1)]) (fun g=>[]) (fun g=>regex_Right_l1 (regex_Right_g N) p0 g.2 g.1=some r) (fun g=>g.2) (_,N) h ?_ ?_
 · (cbv;(try simp only [e_rnil hR]);repeat' (first | exact trivial | exact rfl | exact Or.inr trivial | apply And.intro))
 rintro ⟨v1,m1⟩ h Q1 hN1 hT1 hX1
 have h:regex_Right_l1 (regex_Right_g N) p0 m1 v1=some r:=h
 cases m1 with
 | zero=>exact nomatch (show (none:Option _)=some _ from h)
 | succ m1=>
 rw [regex_Right_l1] at h
 rw [q_ar hE,q_cm hE,q_conj hE,q_ll hE,←hR] at h
 cbv
 refine L_if hE h (fun h=>?_) (fun h=>?_)<;>cbv
 · refine L_rowN hE hR h fun r2 h=>?_;cbv
   refine L_rgJ hE lay_ok h 2 (fun j4:Bool=>[(26,fB j4)]) (fun j4=>[]) (fun j4 h=>?_) (fun j4 h=>?_)<;>cbv
   · refine L_call hE hR h (fun _ e=>ih e) (by subst hR;rfl) rfl fun a3 h=>?_;cbv
     refine L_if hE h (fun h=>?_) (fun h=>?_)<;>cbv
     · cases h;(cbv;(try simp only [e_rnil hR]);repeat' (first | exact trivial | exact rfl | exact Or.inr trivial | apply And.intro))
     refine L_if hE h (fun h=>?_) (fun h=>?_)<;>cbv
     · cases h;(cbv;(try simp only [e_rnil hR]);repeat' (first | exact trivial | exact rfl | exact Or.inr trivial | apply And.intro))
     cases h;(cbv;(try simp only [e_rnil hR]);repeat' (first | exact trivial | exact rfl | exact Or.inr trivial | apply And.intro))
   refine L_if hE h (fun h=>?_) (fun h=>?_)<;>cbv
   · refine hT1 _ ?_
     exact And.left (hQ _ _ _ rfl rfl (by cases h;subst hR;rfl))
   refine hN1 _ (_,m1) [] h (Nat.lt_succ_self _) trivial ?_;(cbv;(try simp only [e_rnil hR]);repeat' (first | exact trivial | exact rfl | exact Or.inr trivial | apply And.intro))
 refine hX1 _ _ ?_;cbv
 refine L_rgJ hE lay_ok h 1 (fun j5:Bool=>[(51,fB j5)]) (fun j5=>[]) (fun j5 h=>?_) (fun j5 h=>?_)<;>cbv
 · refine L_if hE h (fun h=>?_) (fun h=>?_)<;>cbv
   · refine L_if hE h (fun h=>?_) (fun h=>?_)<;>cbv
     · cases h;(cbv;(try simp only [e_rnil hR]);repeat' (first | exact trivial | exact rfl | exact Or.inr trivial | apply And.intro))
     refine L_if hE h (fun h=>?_) (fun h=>?_)<;>cbv
     · refine L_if hE h (fun h=>?_) (fun h=>?_)<;>cbv
       · cases h;(cbv;(try simp only [e_rnil hR]);repeat' (first | exact trivial | exact rfl | exact Or.inr trivial | apply And.intro))
       cases h;(cbv;(try simp only [e_rnil hR]);repeat' (first | exact trivial | exact rfl | exact Or.inr trivial | apply And.intro))
     cases h;(cbv;(try simp only [e_rnil hR]);repeat' (first | exact trivial | exact rfl | exact Or.inr trivial | apply And.intro))
   refine L_if hE h (fun h=>?_) (fun h=>?_)<;>cbv
   · refine L_if hE h (fun h=>?_) (fun h=>?_)<;>cbv
     · cases h;(cbv;(try simp only [e_rnil hR]);repeat' (first | exact trivial | exact rfl | exact Or.inr trivial | apply And.intro))
     cases h;(cbv;(try simp only [e_rnil hR]);repeat' (first | exact trivial | exact rfl | exact Or.inr trivial | apply And.intro))
   cases h;(cbv;(try simp only [e_rnil hR]);repeat' (first | exact trivial | exact rfl | exact Or.inr trivial | apply And.intro))
 refine L_if hE h (fun h=>?_) (fun h=>?_)<;>cbv
 · exact And.left (hQ _ _ _ rfl rfl (by cases h;subst hR;rfl))
 refine L_if hE h (fun h=>?_) (fun h=>?_)<;>cbv
 · exact And.left (hQ _ _ _ rfl rfl (by cases h;subst hR;rfl))
 refine L_if hE h (fun h=>?_) (fun h=>?_)<;>cbv
 · exact And.left (hQ _ _ _ rfl rfl (by cases h;subst hR;rfl))
 refine L_if hE h (fun h=>?_) (fun h=>?_)<;>cbv
 · exact And.left (hQ _ _ _ rfl rfl (by cases h;subst hR;rfl))
 refine L_if hE h (fun h=>?_) (fun h=>?_)<;>cbv
 · refine L_rgJ hE lay_ok h 1 (fun j6:Bool=>[(2,fB j6)]) (fun j6=>[]) (fun j6 h=>?_) (fun j6 h=>?_)<;>cbv
   · refine L_if hE h (fun h=>?_) (fun h=>?_)<;>cbv
     · refine L_call hE hR h (fun _ e=>regex_times_w e) rfl rfl fun a4 h=>?_;cbv
       cases h;(cbv;(try simp only [e_rnil hR]);repeat' (first | exact trivial | exact rfl | exact Or.inr trivial | apply And.intro))
     cases h;(cbv;(try simp only [e_rnil hR]);repeat' (first | exact trivial | exact rfl | exact Or.inr trivial | apply And.intro))
   exact And.left (hQ _ _ _ rfl rfl (by cases h;subst hR;rfl))
 exact And.left (hQ _ _ _ rfl rfl (by cases h;subst hR;rfl))
end Gn
end Go.Proofs.YtjhbgkakhaonaaaGreatDoor
namespace Go.Proofs.YtjhbgkakhaonaaaGreatDoor
open Go Go.RowKit
open Ab Sh
namespace Gn
theorem spots_count_w:∀{N:Nat} {p0:Node} {r:Int},spots_count_g N p0=some r→FunS Tryz.prog 49 [.agg [fI .i64 p0.kind,fI .u64 (p0.set.a.toNat:Int),fI .u64 (p0.set.b.toNat:Int),fI .u64 (p0.set.c.toNat:Int),fI .u64 (p0.set.d.toNat:Int),.t (.slc (rw _ nodeRow p0.kids)),fI .i64 p0.min,fI .i64 p0.max]] (spots_count_s rw) r:=by
 intro N
 induction N with
 | zero=>intros;rename_i h;exact nomatch (show (none:Option _)=some _ from h)
 | succ N ih=>
 intro p0 r h
 refine fun_w lay_ok Tryz.call49 Tryz.func49 rfl ?_
 intro A W E Q R hE hR hf hQ;rcases W with ⟨ar,cm,conj,cv,sl,sc,ct,sa,ss,ll,_,_,_,_,mi,mx,_,_,_,_,_⟩
 rw [←hR]
 rw [spots_count_g] at h
 rw [q_cm hE] at h
 cbv
 refine L_if hE h (fun h=>?_) (fun h=>?_)<;>cbv
 · exact And.left (hQ _ _ _ rfl rfl (by cases h;subst hR;rfl))
 refine L_for hE lay_ok 1 (fun g:Int × Int × Nat=>[(3,fI .i64 g.1),(12,fI .i64 g.2.1)]) (fun g=>[]) (fun g=>spots_count_l1 (spots_count_g N) p0 g.2.2 g.1 g.2.1=some r) (fun g=>g.2.2) (_,_,N) h ?_ ?_
 · (cbv;(try simp only [e_rnil hR]);repeat' (first | exact trivial | exact rfl | exact Or.inr trivial | apply And.intro))
 rintro ⟨v1,v2,m1⟩ h Q1 hN1 hT1 hX1
 have h:spots_count_l1 (spots_count_g N) p0 m1 v1 v2=some r:=h
 cases m1 with
 | zero=>exact nomatch (show (none:Option _)=some _ from h)
 | succ m1=>
 rw [spots_count_l1] at h
 rw [q_ar hE,q_cm hE,q_ll hE,q_mi hE,←hR] at h
 cbv
 refine L_if hE h (fun h=>?_) (fun h=>?_)<;>cbv
 · refine L_rowN hE hR h fun r3 h=>?_;cbv
   refine L_call hE hR h (fun _ e=>ih e) (by subst hR;rfl) rfl fun a4 h=>?_;cbv
   refine hN1 _ (_,_,m1) [] h (Nat.lt_succ_self _) trivial ?_;(cbv;(try simp only [e_rnil hR]);repeat' (first | exact trivial | exact rfl | exact Or.inr trivial | apply And.intro))
 refine hX1 _ _ ?_;cbv
 refine L_if hE h (fun h=>?_) (fun h=>?_)<;>cbv
 · exact And.left (hQ _ _ _ rfl rfl (by cases h;subst hR;rfl))
 refine L_if hE h (fun h=>?_) (fun h=>?_)<;>cbv
 · exact And.left (hQ _ _ _ rfl rfl (by cases h;subst hR;rfl))
 exact And.left (hQ _ _ _ rfl rfl (by cases h;subst hR;rfl))
theorem slices_ConcatI_w {N:Nat} {p0:List (List Int)} {r:List Int} (h:slices_ConcatI_g N p0=some r):FunL Tryz.prog 87 [.t (.slc (rw _ (cLs (cI .i64)) p0))] 3 1 (rw _ (cI .i64) r):=by
 refine list_w lay_ok Tryz.call87 Tryz.func87 rfl ?_
 intro A W E Q R hE hR hf hQ;rcases W with ⟨ar,cm,conj,cv,sl,sc,ct,sa,ss,ll,_,_,_,_,mi,mx,_,_,_,_,_⟩
 rw [←hR]
 unfold slices_ConcatI_g at h
 skip
 cbv
 refine L_for hE lay_ok 0 (fun g:Int × Int × Nat=>[(3,fI .i64 g.1),(11,fI .i64 g.2.1)]) (fun g=>[]) (fun g=>slices_ConcatI_l1 N p0 g.2.2 g.1 g.2.1=some r) (fun g=>g.2.2) (_,_,N) h ?_ ?_
 · (cbv;(try simp only [e_rnil hR]);repeat' (first | exact trivial | exact rfl | exact Or.inr trivial | apply And.intro))
 rintro ⟨v1,v2,m1⟩ h Q1 hN1 hT1 hX1
 have h:slices_ConcatI_l1 N p0 m1 v1 v2=some r:=h
 cases m1 with
 | zero=>exact nomatch (show (none:Option _)=some _ from h)
 | succ m1=>
 rw [slices_ConcatI_l1] at h
 rw [q_ar hE,q_cm hE,q_ll hE,←hR] at h
 cbv
 refine L_if hE h (fun h=>?_) (fun h=>?_)<;>cbv
 · refine L_rowL hE hR h fun r3 h=>?_;cbv
   refine L_cd hE lay_ok ?_;cbv
   refine L_if hE h (fun h=>?_) (fun h=>?_)<;>cbv
   · refine r_ifc hE Tryz.underlying9 rfl ?_;cbv
     exact nomatch h
   refine hN1 _ (_,_,m1) [] h (Nat.lt_succ_self _) trivial ?_;(cbv;(try simp only [e_rnil hR]);repeat' (first | exact trivial | exact rfl | exact Or.inr trivial | apply And.intro))
 refine hX1 _ _ ?_;cbv
 refine L_grow hE h fun h=>?_;cbv
 refine L_for hE lay_ok 1 (fun g:Int ×(List Int)× Nat=>[(6,.lst 0),(27,fI .i64 g.1)]) (fun g=>[(0,.list 3 1 (R _ (cI .i64) g.2.1))]) (fun g=>slices_ConcatI_l2 p0 g.2.2 g.1 g.2.1=some r) (fun g=>g.2.2) (_,_,N) h ?_ ?_
 · (cbv;(try simp only [e_rnil hR]);repeat' (first | exact trivial | exact rfl | exact Or.inr trivial | apply And.intro))
 rintro ⟨v4,v5,m2⟩ h Q2 hN2 hT2 hX2
 have h:slices_ConcatI_l2 p0 m2 v4 v5=some r:=h
 cases m2 with
 | zero=>exact nomatch (show (none:Option _)=some _ from h)
 | succ m2=>
 rw [slices_ConcatI_l2] at h
 rw [q_ar hE,q_cm hE,q_ll hE,←hR] at h
 cbv
 refine L_if hE h (fun h=>?_) (fun h=>?_)<;>cbv
 · refine L_rowL hE hR h fun r6 h=>?_;cbv
   refine L_app hE hR h (hf _) (fun _=>rfl) (by decide) fun l7 e h=>?_;cbv at e;rw [e];clear e
   refine hN2 _ (_,_,m2) [] h (Nat.lt_succ_self _) trivial ?_;(cbv;(try simp only [e_rnil hR]);repeat' (first | exact trivial | exact rfl | exact Or.inr trivial | apply And.intro))
 refine hX2 _ _ ?_;cbv
 exact And.left (hQ _ _ rfl (.inl ⟨_,rfl,by cases h;subst hR;rfl⟩))
theorem spots_merge_w {N:Nat} {p0:List Int} {p1:List Int} {r:List Int} (h:spots_merge_g N p0 p1=some r):FunS Tryz.prog 73 [.t (.slc (rw _ (cI .i64) p0)),.t (.slc (rw _ (cI .i64) p1))] (spots_merge_s rw) r:=by
 refine fun_w lay_ok Tryz.call73 Tryz.func73 rfl ?_
 intro A W E Q R hE hR hf hQ;rcases W with ⟨ar,cm,conj,cv,sl,sc,ct,sa,ss,ll,_,_,_,_,mi,mx,_,_,_,_,_⟩
 rw [←hR]
 unfold spots_merge_g at h
 rw [q_cm hE,q_ll hE,←hR] at h
 cbv
 refine L_listB hE hR h (fun _ e=>slices_ConcatI_w e) rfl (by subst hR;rfl) flat_I fun l1 h=>?_;cbv
 refine sortI_L hE hR h rfl fun l2 h=>?_;cbv
 refine L_body hE lay_ok Tryz.call89 Tryz.func89 rfl ?_
 intro A1 E1 Q1 hE1 hf1 hQ1;cbv
 refine L_if hE1 h (fun h=>?_) (fun h=>?_)<;>cbv
 · refine And.left (hQ1 _ _ rfl ?_);cbv
   exact And.left (hQ _ _ _ rfl rfl (by cases h;subst hR;rfl))
 refine L_for hE1 lay_ok 2 (fun g:Int × Nat=>[(0,.lst 1),(2,vNil),(3,fI .i64 g.1),(6,.lst 1)]) (fun g=>[]) (fun g=>spots_merge_l2 N l2 g.2 g.1=some r) (fun g=>g.2) (_,N) h ?_ ?_
 · (cbv;(try simp only [e_rnil hR]);repeat' (first | exact trivial | exact rfl | exact Or.inr trivial | apply And.intro))
 rintro ⟨v3,m2⟩ h Q2 hN2 hT2 hX2
 have h:spots_merge_l2 N l2 m2 v3=some r:=h
 cases m2 with
 | zero=>exact nomatch (show (none:Option _)=some _ from h)
 | succ m2=>
 rw [spots_merge_l2] at h
 rw [q_ar hE,q_cm hE,q_ll hE,←hR] at h
 cbv
 refine L_if hE1 h (fun h=>?_) (fun h=>?_)<;>cbv
 · refine L_whole hE1 lay_ok (by kernel_rfl) (by kernel_rfl) ?_;cbv
   refine L_row hE1 hR h fun r4 h=>?_;cbv
   refine L_row hE1 hR h fun r5 h=>?_;cbv
   refine L_row hE1 hR h fun r6 h=>?_;cbv
   refine L_row hE1 hR h fun r7 h=>?_;cbv
   refine L_if hE1 h (fun h=>?_) (fun h=>?_)<;>cbv
   · refine L_wsin hE1 hR h (fun _=>rfl) fun h=>?_;cbv
     refine L_for hE1 lay_ok 12 (fun g:Int × Int ×(List Int)× Nat=>[(0,.lst 1),(3,fI .i64 g.1),(4,.win 1 v3),(5,fI .i64 g.2.1),(6,.lst 1),(11,.lst 1),(16,.lst 1),(18,.elt 1 v3 0),(20,.lst 1),(23,.elt 1 (ar .sub .i64 v3 1) 0),(26,.lst 1),(28,.win 1 v3)]) (fun g=>[(1,.list 3 1 (R _ (cI .i64) g.2.2.1))]) (fun g=>spots_merge_l3 v3 g.2.2.2 g.1 g.2.1 g.2.2.1=some r) (fun g=>g.2.2.2) (_,_,_,N) h ?_ ?_
     · (cbv;(try simp only [e_rnil hR]);repeat' (first | exact trivial | exact rfl | exact Or.inr trivial | apply And.intro))
     rintro ⟨v8,v9,v10,m3⟩ h Q3 hN3 hT3 hX3
     have h:spots_merge_l3 v3 m3 v8 v9 v10=some r:=h
     cases m3 with
     | zero=>exact nomatch (show (none:Option _)=some _ from h)
     | succ m3=>
     rw [spots_merge_l3] at h
     rw [q_ar hE,q_cm hE,q_ll hE,←hR] at h
     cbv
     refine L_wsin hE1 hR h (fun _=>rfl) fun h=>?_;cbv
     refine L_if hE1 h (fun h=>?_) (fun h=>?_)<;>cbv
     · refine L_whole hE1 lay_ok (by kernel_rfl) (by kernel_rfl) ?_;cbv
       refine L_wrow hE1 hR h fun h=>?_;cbv
       refine L_row hE1 hR h fun r11 h=>?_;cbv
       refine L_wrow hE1 hR h fun h=>?_;cbv
       refine L_row hE1 hR h fun r12 h=>?_;cbv
       refine L_cdJ hE1 lay_ok h 22 (fun j2:Int ×(List Int)=>[(3,fI .i64 j2.1)]) (fun j2=>[(1,.list 3 1 (R _ (cI .i64) j2.2))]) (fun j2 h=>?_) (fun j2 h=>?_)<;>cbv
       · refine L_if hE1 h (fun h=>?_) (fun h=>?_)<;>cbv
         · refine L_wrow hE1 hR h fun h=>?_;cbv
           refine L_row hE1 hR h fun r13 h=>?_;cbv
           refine L_row hE1 hR h fun r14 h=>?_;cbv
           refine L_row hE1 hR h fun r15 h=>?_;cbv
           refine L_put hE1 hR h fun l16 e h=>?_;cbv at e;rw [e];clear e
           cases h;(cbv;(try simp only [e_rnil hR]);repeat' (first | exact trivial | exact rfl | exact Or.inr trivial | apply And.intro))
         cases h;(cbv;(try simp only [e_rnil hR]);repeat' (first | exact trivial | exact rfl | exact Or.inr trivial | apply And.intro))
       refine hN3 _ (_,_,_,m3) [] h (Nat.lt_succ_self _) trivial ?_;(cbv;(try simp only [e_rnil hR]);repeat' (first | exact trivial | exact rfl | exact Or.inr trivial | apply And.intro))
     refine hX3 _ _ ?_;cbv
     refine L_wsin hE1 hR h (fun _=>rfl) fun h=>?_;cbv
     refine L_clr hE1 hR h (fun _=>rfl) fun l17 e h=>?_;cbv at e;rw [e];clear e
     refine L_cut hE1 hR h (hf1 _ (.inr ⟨hf _,_,_,_,rfl⟩)) (fun _=>rfl) fun l18 e h=>?_;cbv at e;rw [e];clear e
     refine hT2 _ ?_
     refine And.left (hQ1 _ _ rfl ?_);cbv
     exact And.left (hQ _ _ _ rfl rfl (by cases h;subst hR;rfl))
   refine hN2 _ (_,m2) [] h (Nat.lt_succ_self _) trivial ?_;(cbv;(try simp only [e_rnil hR]);repeat' (first | exact trivial | exact rfl | exact Or.inr trivial | apply And.intro))
 refine hX2 _ _ ?_;cbv
 refine And.left (hQ1 _ _ rfl ?_);cbv
 exact And.left (hQ _ _ _ rfl rfl (by cases h;subst hR;rfl))
theorem spots_writer_next_w {N:Nat} {p1:List Int} {p2:List Int} {s0:Gspots_writer} {r:Gspots_writer} (h:spots_writer_next_g N p1 p2 s0=some r):HFun Tryz.prog 90 [.ptr 0 0,.t (.slc (rw _ (cI .i64) p1)),.t (.slc (rw _ (cI .i64) p2))] [.box 82 [.lst 1,fB s0.out.None,.t (.slc (rw _ (cI .i64) s0.out.First)),.t (.slc (rw _ (cI .i64) s0.out.Last)),.lst 2],.list 45 4 (rw _ cSet s0.out.Sets),.list 23 1 (rw _ (cLs (cI .i64)) s0.out.Next)] (spots_writer_next_s rw r) (spots_writer_next_t rw r):=by
 refine hfun_w lay_ok Tryz.call90 Tryz.func90 rfl [true,false,false] rfl ?_
 intro A W E Q R hE hR hf hQ;rcases W with ⟨ar,cm,conj,cv,sl,sc,ct,sa,ss,ll,_,_,_,_,mi,mx,_,_,_,_,_⟩
 rw [←hR]
 unfold spots_writer_next_g at h
 skip
 cbv
 refine L_for hE lay_ok 3 (fun g:Int ×(List (List Int))× Nat=>[(10,fI .i64 g.1)]) (fun g=>[(2,.list 23 1 (R _ (cLs (cI .i64)) g.2.1))]) (fun g=>spots_writer_next_l1 N p1 p2 s0 g.2.2 g.1 g.2.1=some r) (fun g=>g.2.2) (_,_,N) h ?_ ?_
 · (cbv;(try simp only [e_rnil hR]);repeat' (first | exact trivial | exact rfl | exact Or.inr trivial | apply And.intro))
 rintro ⟨v1,v2,m1⟩ h Q1 hN1 hT1 hX1
 have h:spots_writer_next_l1 N p1 p2 s0 m1 v1 v2=some r:=h
 cases m1 with
 | zero=>exact nomatch (show (none:Option _)=some _ from h)
 | succ m1=>
 rw [spots_writer_next_l1] at h
 rw [q_ar hE,q_cm hE,q_ll hE,←hR] at h
 cbv
 refine L_if hE h (fun h=>?_) (fun h=>?_)<;>cbv
 · refine L_row hE hR h fun r3 h=>?_;cbv
   refine L_tail hE lay_ok (by kernel_rfl) 17 (by kernel_rfl) ?_;cbv
   refine L_rowL hE hR h fun r4 h=>?_;cbv
   refine L_rowL hE hR h fun r5 h=>?_;cbv
   refine L_pcall hE hR h (fun _ e=>spots_merge_w e) (by subst hR;rfl) rfl fun a6 h=>?_;cbv
   refine L_rowL hE hR h fun r7 h=>?_;cbv
   refine L_rowL hE hR h fun r8 h=>?_;cbv
   refine L_putL hE hR h fun l9 e h=>?_;cbv at e;rw [e];clear e
   refine hN1 _ (_,_,m1) [] h (Nat.lt_succ_self _) trivial ?_;(cbv;(try simp only [e_rnil hR]);repeat' (first | exact trivial | exact rfl | exact Or.inr trivial | apply And.intro))
 refine hX1 _ _ ?_;cbv
 exact And.right (hQ _ _ _ _ rfl rfl rfl (by cases h;subst hR;rfl) (by cases h;subst hR;rfl))
end Gn
end Go.Proofs.YtjhbgkakhaonaaaGreatDoor
