/- Texts that the proof leans on. -/
import Derived.Test.YtbpihhelojjedaaDoorK316
set_option linter.unusedVariables false
set_option linter.unusedSimpArgs false
set_option maxRecDepth 100000
set_option maxHeartbeats 4000000
namespace Go.Proofs.YtbpihhelojjedaaDoor
open Go Go.RowKit
open Ab
namespace Rd
theorem digs_end {l:List UInt8} {n j:Nat} (hj:j≤l.length) (h:¬(48≤Rx.pk l j∧Rx.pk l j≤57)):Rx.digs l (l.length-j) n j=(n,j):=by
 by_cases hl:j<l.length
 · rw [digs_step hl,if_neg]
   simp only [Rx.digitB,Bool.and_eq_true,decide_eq_true_eq]
   exact h
 · rw [show l.length-j=0 by omega];rfl
theorem number_c (s:ByteArray) {I:Int} {i:Nat} (op:Int) (hI:I=i) (hi:i≤s.size) (hs:s.size≤1000):Meth Tryd.prog 89 74 (rd s I op) [] (rdOut s op (fun n:Nat=>fI .i64 n) (Rx.number s.data.toList i)):=by
 have hl:s.data.toList.length=s.size:=by simp
 refine methO_of lay_ok (Tryd.call89) (Tryd.func89) rfl ?_
 intro A E Q hE hf hQ hP
 cbv
 refine use_for hE lay_ok 1 (fun g:Int × Int=>[(4,fI .i64 g.1)]) (fun g=>[(0,.box 74 (rd s g.2 op))]) (fun g=>∃n j:Nat,g=((n:Int),(j:Int))∧i≤j∧j≤s.size∧n≤1000∧Rx.digs s.data.toList (s.data.toList.length-j) n j=Rx.digs s.data.toList (s.data.toList.length-i) 0 i) (fun g=>((s.size:Int)-g.2).toNat) (0,I) ⟨0,i,by rw [hI];rfl,Nat.le_refl _,hi,by omega,rfl⟩ (by cbv) ?_
 rintro ⟨N,J⟩ ⟨n,j,e,h1,h2,h3,h4⟩ Q' hN hR hX
 obtain ⟨eN,eJ⟩:=Prod.mk.inj e
 simp only [cast_nat] at hI eN eJ
 have hp:=peek_c s op (i:=J) (by omega)
 have hx:pkI s J=Rx.pk s.data.toList j:=by rw [eJ];rfl
 have hb:=pkb s.data.toList j
 have ha:E.ar .add .i64 J 1=((j+1:Nat):Int):=(e_add hE (by omega) (by omega)).trans (by omega)
 obtain ⟨b,hbb⟩:∃b,b=Rx.pk s.data.toList j:=⟨_,rfl⟩
 rw [hx,←hbb] at hp
 rw [←hbb] at hb
 have hw1:=fun h=>wrong_end s op (i:=J) (by omega) h
 have hw2:=fun h=>wrong_form s op (i:=J) (by omega) h
 by_cases hd:48≤b∧b≤57
 · have hj:j<s.data.toList.length:=pk_in (by omega)
   have hn:E.imin (E.ar .sub .i64 (E.ar .add .i64 (E.ar .mul .i64 10 N) b) 48) 1000=((Nat.min (10*n+(b-48).toNat) 1000:Nat):Int):=by
    rw [e_mul hE (by omega) (by omega),e_add hE (by omega) (by omega),e_sub hE (by omega) (by omega),e_imin hE,eN]
    show _=((min (10*n+(b-48).toNat) 1000:Nat):Int)
    split<;>omega
   rw [digs_step hj,←hbb,if_pos (by simp only [Rx.digitB,Bool.and_eq_true,decide_eq_true_eq];exact hd)] at h4
   cbv
   repeat' (first | (refine r_true hE rfl ?_;cbv) | (refine r_false hE rfl ?_;cbv) | (refine use_meth hE hp rfl rfl rfl rfl rfl ?_;cbv) | (refine c_eql hE (fun h=>?_) (fun h=>?_)<;>first | (exfalso;omega) | cbv) | (refine c_neq hE (fun h=>?_) (fun h=>?_)<;>first | (exfalso;omega) | cbv) | (refine c_lss hE (fun h=>?_) (fun h=>?_)<;>first | (exfalso;omega) | cbv) | (refine c_leq hE (fun h=>?_) (fun h=>?_)<;>first | (exfalso;omega) | cbv) | (refine c_gtr hE (fun h=>?_) (fun h=>?_)<;>first | (exfalso;omega) | cbv) | (refine c_geq hE (fun h=>?_) (fun h=>?_)<;>first | (exfalso;omega) | cbv) | (refine c_seql hE (fun h=>?_) (fun h=>?_)<;>first | (exfalso;omega) | cbv) | (refine c_sneq hE (fun h=>?_) (fun h=>?_)<;>first | (exfalso;omega) | cbv) | (refine r_sin hE ?_ ?_ ?_;rotate_left 2;cbv) | (refine r_ssin hE ?_ ?_ ?_ ?_;rotate_left 3;cbv) | (refine use_draw hE lay_ok (by kernel_rfl) (by kernel_rfl) ?_;cbv) | (refine c_b hE (fun h=>?_) (fun h=>?_)<;>cbv))
   refine hN _ (_,_) ⟨_,_,Prod.ext hn ha,by omega,by omega,Nat.min_le_right _ _,h4⟩ ?_ (by cbv)
   show ((s.size:Int)-E.ar .add .i64 J 1).toNat<((s.size:Int)-J).toNat
   rw [ha];clear hN hR hX hp hQ hP hw1 hw2;(simp only [cast_nat] at *;omega)
 · have hD:=digs_end (n:=n) (j:=j) (l:=s.data.toList) (by omega) (by rw [←hbb];exact hd)
   rw [hD] at h4
   have hJ:(s.size:Int)≤J→Rx.other s.data.toList j=(.bad 1 s.data.toList.length:Res Nat):=fun h=>by
    unfold Rx.other;rw [←hx,pkI_ge (by omega) h];rfl
   have hJ2:J<(s.size:Int)→Rx.other s.data.toList j=(.bad 2 j:Res Nat):=fun h=>by
    unfold Rx.other;rw [←hx,pkI_lt (by omega) h,if_neg (by omega)]
   have e2:E.ar .add .i64 I 1=I+1:=e_add hE (by omega) (by omega)
   have hsat0:=fun h:i<s.size=>sat_pk hE hI h
   have hij:I=J→i=j:=fun h=>by omega
   have hnum:Rx.number s.data.toList i=if j=i then Rx.other s.data.toList i else if Rx.pk s.data.toList i=48∧j>i+1 then .bad 2 i else if n>16 then .bad 3 i else .ok n j:=by
    unfold Rx.number;rw [←h4]
   cbv
   repeat' (first | (refine r_true hE rfl ?_;cbv) | (refine r_false hE rfl ?_;cbv) | (refine use_meth hE hp rfl rfl rfl rfl rfl ?_;cbv) | (refine c_eql hE (fun h=>?_) (fun h=>?_)<;>first | (exfalso;omega) | cbv) | (refine c_neq hE (fun h=>?_) (fun h=>?_)<;>first | (exfalso;omega) | cbv) | (refine c_lss hE (fun h=>?_) (fun h=>?_)<;>first | (exfalso;omega) | cbv) | (refine c_leq hE (fun h=>?_) (fun h=>?_)<;>first | (exfalso;omega) | cbv) | (refine c_gtr hE (fun h=>?_) (fun h=>?_)<;>first | (exfalso;omega) | cbv) | (refine c_geq hE (fun h=>?_) (fun h=>?_)<;>first | (exfalso;omega) | cbv) | (refine c_seql hE (fun h=>?_) (fun h=>?_)<;>first | (exfalso;omega) | cbv) | (refine c_sneq hE (fun h=>?_) (fun h=>?_)<;>first | (exfalso;omega) | cbv) | (refine r_sin hE ?_ ?_ ?_;rotate_left 2;cbv) | (refine r_ssin hE ?_ ?_ ?_ ?_;rotate_left 3;cbv) | (refine use_draw hE lay_ok (by kernel_rfl) (by kernel_rfl) ?_;cbv) | (refine c_b hE (fun h=>?_) (fun h=>?_)<;>cbv))
   all_goals (refine hX _ _ ?_;cbv)
   repeat' (first | (refine r_true hE rfl ?_;cbv) | (refine r_false hE rfl ?_;cbv) | (refine c_eql hE (fun h=>?_) (fun h=>?_)<;>first | (exfalso;omega) | cbv) | (refine c_neq hE (fun h=>?_) (fun h=>?_)<;>first | (exfalso;omega) | cbv) | (refine c_lss hE (fun h=>?_) (fun h=>?_)<;>first | (exfalso;omega) | cbv) | (refine c_leq hE (fun h=>?_) (fun h=>?_)<;>first | (exfalso;omega) | cbv) | (refine c_gtr hE (fun h=>?_) (fun h=>?_)<;>first | (exfalso;omega) | cbv) | (refine c_geq hE (fun h=>?_) (fun h=>?_)<;>first | (exfalso;omega) | cbv) | (refine c_seql hE (fun h=>?_) (fun h=>?_)<;>first | (exfalso;omega) | cbv) | (refine c_sneq hE (fun h=>?_) (fun h=>?_)<;>first | (exfalso;omega) | cbv) | (refine r_sin hE ?_ ?_ ?_;rotate_left 2;cbv) | (refine r_ssin hE ?_ ?_ ?_ ?_;rotate_left 3;cbv) | (refine use_draw hE lay_ok (by kernel_rfl) (by kernel_rfl) ?_;cbv) | (refine c_b hE (fun h=>?_) (fun h=>?_)<;>cbv))
   all_goals clear hN hR hX
   all_goals first
    | (refine use_thr hE (fail_t _ _) rfl rfl ?_;refine hP _ _ _ rfl rfl ?_)
    | (refine And.left (hQ _ _ _ _ _ rfl rfl rfl rfl ?_))
    | (simp only [cast_nat] at *;omega)
    | (rcases Int.lt_or_le J s.size with hh | hh;(refine use_methP hE (hw2 hh) rfl rfl rfl rfl rfl ?_;refine hP _ _ _ rfl rfl ?_;rw [hnum,if_pos (by simp only [cast_nat] at *;omega),hij (by simp only [cast_nat] at *;omega),hJ2 hh,eJ];try rfl);(refine use_methP hE (hw1 hh) rfl rfl rfl rfl rfl ?_;refine hP _ _ _ rfl rfl ?_;rw [hnum,if_pos (by simp only [cast_nat] at *;omega),hij (by simp only [cast_nat] at *;omega),hJ hh,hl];try rfl))
   all_goals first
    | (simp only [cast_nat] at *;omega)
    | skip
   all_goals (rw [hnum];simp only [cast_nat] at *)
   all_goals (rw [if_neg (by omega)])
   all_goals (have hsat:=hsat0 (by omega);rw [e2] at *)
   all_goals first
    | (rw [if_pos ⟨by omega,by omega⟩,hI];try rfl)
    | (rw [if_neg (by omega),if_pos (by omega),hI];try rfl)
    | (rw [if_neg (by omega),if_neg (by omega),eN,eJ];try rfl)
end Rd
end Go.Proofs.YtbpihhelojjedaaDoor
namespace Go.Proofs.YtbpihhelojjedaaDoor
open Go Go.RowKit
open Ab
namespace Rd
def shII (a:Int × Int):V:=.tup [fI .i64 a.1,fI .i64 a.2]
theorem peek_l (s:ByteArray) {I:Int} {i:Nat} (op:Int) (hI:I=i):Meth Tryd.prog 56 74 (rd s I op) [] (.ret (fI .i64 (Rx.pk s.data.toList i)) (rd s I op)):=by
 have:=peek_c s op (i:=I) (by omega)
 rw [show pkI s I=Rx.pk s.data.toList i by unfold pkI;rw [hI];rfl] at this
 exact this
theorem braces_c (s:ByteArray) {I:Int} {i:Nat} (op:Int) (hI:I=i) (hi:i≤s.size) (hs:s.size≤1000):Meth Tryd.prog 73 74 (rd s I op) [] (rdOut s op shII (Rx.brc s.data.toList i)):=by
 have hl:s.data.toList.length=s.size:=by simp
 have N1:=number_c s op hI hi hs
 have F1:=fine_number s.data.toList i (by omega)
 unfold Rx.brc
 cases hr:Rx.number s.data.toList i with
 | out=>rw [hr] at F1;exact F1.elim
 | bad e p=>
   rw [hr] at N1
   have N1:Meth Tryd.prog _ _ _ _ (.pan (faultV e p)):=N1
   refine methO_of lay_ok (Tryd.call73) (Tryd.func73) rfl ?_;intro A E Q hE hf hQ hP
   obtain ⟨X,hX⟩:∃X:Int,X=(p:Int):=⟨_,rfl⟩
   rw [←hX] at N1
   cbv
   refine use_methP hE N1 rfl rfl rfl rfl rfl ?_
   exact hP _ _ _ rfl rfl (pan_eq hX)
 | ok low p=>
   rw [hr] at N1 F1
   have F1:i<p∧p≤s.data.toList.length:=F1
   obtain ⟨L,hL⟩:∃L:Int,L=(low:Int):=⟨_,rfl⟩
   obtain ⟨J,hJ⟩:∃J:Int,J=(p:Int):=⟨_,rfl⟩
   have N1:Meth Tryd.prog _ _ _ _ (.ret (fI .i64 (low:Int)) (rd s (p:Int) op)):=N1
   rw [←hL,←hJ] at N1
   have P1:=peek_l s op hJ
   dsimp only
   obtain ⟨b,hb⟩:∃b,b=Rx.pk s.data.toList p:=⟨_,rfl⟩
   rw [←hb] at P1 ⊢
   by_cases h44:b=44
   case neg=>
    rw [if_neg h44]
    refine methO_of lay_ok (Tryd.call73) (Tryd.func73) rfl ?_;intro A E Q hE hf hQ hP
    cbv
    repeat' (first | (refine r_true hE rfl ?_;cbv) | (refine r_false hE rfl ?_;cbv) | (refine use_meth hE N1 rfl rfl rfl rfl rfl ?_;cbv) | (refine use_meth hE P1 rfl rfl rfl rfl rfl ?_;cbv) | (refine c_eql hE (fun h=>?_) (fun h=>?_)<;>first | (exfalso;omega) | cbv) | (refine c_neq hE (fun h=>?_) (fun h=>?_)<;>first | (exfalso;omega) | cbv) | (refine c_lss hE (fun h=>?_) (fun h=>?_)<;>first | (exfalso;omega) | cbv) | (refine c_leq hE (fun h=>?_) (fun h=>?_)<;>first | (exfalso;omega) | cbv) | (refine c_gtr hE (fun h=>?_) (fun h=>?_)<;>first | (exfalso;omega) | cbv) | (refine c_geq hE (fun h=>?_) (fun h=>?_)<;>first | (exfalso;omega) | cbv) | (refine c_seql hE (fun h=>?_) (fun h=>?_)<;>first | (exfalso;omega) | cbv) | (refine c_sneq hE (fun h=>?_) (fun h=>?_)<;>first | (exfalso;omega) | cbv) | (refine r_sin hE ?_ ?_ ?_;rotate_left 2;cbv) | (refine r_ssin hE ?_ ?_ ?_ ?_;rotate_left 3;cbv) | (refine use_draw hE lay_ok (by kernel_rfl) (by kernel_rfl) ?_;cbv) | (refine c_b hE (fun h=>?_) (fun h=>?_)<;>cbv))
    · refine use_thr hE (fail_t _ _) rfl rfl ?_
      exact hP _ _ _ rfl rfl (by rw [if_pos (by simp only [cast_nat] at *;omega)];exact pan_eq hI)
    · exact And.left (hQ _ _ _ _ _ rfl rfl rfl rfl (by rw [if_neg (by simp only [cast_nat] at *;omega)];exact ret_eq (by rw [hL];rfl) hJ))
   rw [if_pos h44]
   have hp:p<s.data.toList.length:=pk_in (by rw [←hb];omega)
   obtain ⟨J1,hJ1⟩:∃J:Int,J=((p+1:Nat):Int):=⟨_,rfl⟩
   have P2:=peek_l s op hJ1
   obtain ⟨c,hc⟩:∃b,b=Rx.pk s.data.toList (p+1):=⟨_,rfl⟩
   have ha:∀{A:Run} {E:Env},dom Tryd.prog A=E→E.ar .add .i64 J 1=J1:=fun hE=>(e_add hE (by omega) (by omega)).trans (by omega)
   rw [←hc] at P2 ⊢
   by_cases h125:c=125
   · rw [if_pos h125]
     refine methO_of lay_ok (Tryd.call73) (Tryd.func73) rfl ?_;intro A E Q hE hf hQ hP
     have ha:=ha hE
     rw [←ha] at P2
     cbv
     repeat' (first | (refine r_true hE rfl ?_;cbv) | (refine r_false hE rfl ?_;cbv) | (refine use_meth hE N1 rfl rfl rfl rfl rfl ?_;cbv) | (refine use_meth hE P1 rfl rfl rfl rfl rfl ?_;cbv) | (refine use_meth hE P2 rfl rfl rfl rfl rfl ?_;cbv) | (refine c_eql hE (fun h=>?_) (fun h=>?_)<;>first | (exfalso;omega) | cbv) | (refine c_neq hE (fun h=>?_) (fun h=>?_)<;>first | (exfalso;omega) | cbv) | (refine c_lss hE (fun h=>?_) (fun h=>?_)<;>first | (exfalso;omega) | cbv) | (refine c_leq hE (fun h=>?_) (fun h=>?_)<;>first | (exfalso;omega) | cbv) | (refine c_gtr hE (fun h=>?_) (fun h=>?_)<;>first | (exfalso;omega) | cbv) | (refine c_geq hE (fun h=>?_) (fun h=>?_)<;>first | (exfalso;omega) | cbv) | (refine c_seql hE (fun h=>?_) (fun h=>?_)<;>first | (exfalso;omega) | cbv) | (refine c_sneq hE (fun h=>?_) (fun h=>?_)<;>first | (exfalso;omega) | cbv) | (refine r_sin hE ?_ ?_ ?_;rotate_left 2;cbv) | (refine r_ssin hE ?_ ?_ ?_ ?_;rotate_left 3;cbv) | (refine use_draw hE lay_ok (by kernel_rfl) (by kernel_rfl) ?_;cbv) | (refine c_b hE (fun h=>?_) (fun h=>?_)<;>cbv))
     exact And.left (hQ _ _ _ _ _ rfl rfl rfl rfl (ret_eq (by rw [hL];rfl) (ha.trans hJ1)))
   rw [if_neg h125]
   have N2:=number_c s op hJ1 (by omega) hs
   have F2:=fine_number s.data.toList (p+1) (by omega)
   cases hr2:Rx.number s.data.toList (p+1) with
   | out=>rw [hr2] at F2;exact F2.elim
   | bad e q=>
     rw [hr2] at N2
     obtain ⟨X,hX⟩:∃X:Int,X=(q:Int):=⟨_,rfl⟩
     have N2:Meth Tryd.prog _ _ _ _ (.pan (faultV e q)):=N2
     rw [←hX] at N2
     refine methO_of lay_ok (Tryd.call73) (Tryd.func73) rfl ?_;intro A E Q hE hf hQ hP
     have ha:=ha hE
     rw [←ha] at P2 N2
     cbv
     repeat' (first | (refine r_true hE rfl ?_;cbv) | (refine r_false hE rfl ?_;cbv) | (refine use_meth hE N1 rfl rfl rfl rfl rfl ?_;cbv) | (refine use_meth hE P1 rfl rfl rfl rfl rfl ?_;cbv) | (refine use_meth hE P2 rfl rfl rfl rfl rfl ?_;cbv) | (refine c_eql hE (fun h=>?_) (fun h=>?_)<;>first | (exfalso;omega) | cbv) | (refine c_neq hE (fun h=>?_) (fun h=>?_)<;>first | (exfalso;omega) | cbv) | (refine c_lss hE (fun h=>?_) (fun h=>?_)<;>first | (exfalso;omega) | cbv) | (refine c_leq hE (fun h=>?_) (fun h=>?_)<;>first | (exfalso;omega) | cbv) | (refine c_gtr hE (fun h=>?_) (fun h=>?_)<;>first | (exfalso;omega) | cbv) | (refine c_geq hE (fun h=>?_) (fun h=>?_)<;>first | (exfalso;omega) | cbv) | (refine c_seql hE (fun h=>?_) (fun h=>?_)<;>first | (exfalso;omega) | cbv) | (refine c_sneq hE (fun h=>?_) (fun h=>?_)<;>first | (exfalso;omega) | cbv) | (refine r_sin hE ?_ ?_ ?_;rotate_left 2;cbv) | (refine r_ssin hE ?_ ?_ ?_ ?_;rotate_left 3;cbv) | (refine use_draw hE lay_ok (by kernel_rfl) (by kernel_rfl) ?_;cbv) | (refine c_b hE (fun h=>?_) (fun h=>?_)<;>cbv))
     refine use_methP hE N2 rfl rfl rfl rfl rfl ?_
     exact hP _ _ _ rfl rfl (pan_eq hX)
   | ok high q=>
     rw [hr2] at N2
     obtain ⟨H,hH⟩:∃L:Int,L=(high:Int):=⟨_,rfl⟩
     obtain ⟨K,hK⟩:∃J:Int,J=(q:Int):=⟨_,rfl⟩
     have N2:Meth Tryd.prog _ _ _ _ (.ret (fI .i64 (high:Int)) (rd s (q:Int) op)):=N2
     rw [←hH,←hK] at N2
     dsimp only
     refine methO_of lay_ok (Tryd.call73) (Tryd.func73) rfl ?_;intro A E Q hE hf hQ hP
     have ha:=ha hE
     rw [←ha] at P2 N2
     cbv
     repeat' (first | (refine r_true hE rfl ?_;cbv) | (refine r_false hE rfl ?_;cbv) | (refine use_meth hE N1 rfl rfl rfl rfl rfl ?_;cbv) | (refine use_meth hE P1 rfl rfl rfl rfl rfl ?_;cbv) | (refine use_meth hE P2 rfl rfl rfl rfl rfl ?_;cbv) | (refine use_meth hE N2 rfl rfl rfl rfl rfl ?_;cbv) | (refine c_eql hE (fun h=>?_) (fun h=>?_)<;>first | (exfalso;omega) | cbv) | (refine c_neq hE (fun h=>?_) (fun h=>?_)<;>first | (exfalso;omega) | cbv) | (refine c_lss hE (fun h=>?_) (fun h=>?_)<;>first | (exfalso;omega) | cbv) | (refine c_leq hE (fun h=>?_) (fun h=>?_)<;>first | (exfalso;omega) | cbv) | (refine c_gtr hE (fun h=>?_) (fun h=>?_)<;>first | (exfalso;omega) | cbv) | (refine c_geq hE (fun h=>?_) (fun h=>?_)<;>first | (exfalso;omega) | cbv) | (refine c_seql hE (fun h=>?_) (fun h=>?_)<;>first | (exfalso;omega) | cbv) | (refine c_sneq hE (fun h=>?_) (fun h=>?_)<;>first | (exfalso;omega) | cbv) | (refine r_sin hE ?_ ?_ ?_;rotate_left 2;cbv) | (refine r_ssin hE ?_ ?_ ?_ ?_;rotate_left 3;cbv) | (refine use_draw hE lay_ok (by kernel_rfl) (by kernel_rfl) ?_;cbv) | (refine c_b hE (fun h=>?_) (fun h=>?_)<;>cbv))
     · refine use_thr hE (fail_t _ _) rfl rfl ?_
       exact hP _ _ _ rfl rfl (by rw [if_pos (by simp only [cast_nat] at *;omega)];exact pan_eq (ha.trans hJ1))
     · refine use_thr hE (fail_t _ _) rfl rfl ?_
       exact hP _ _ _ rfl rfl (by rw [if_pos (by simp only [cast_nat] at *;omega)];exact pan_eq (ha.trans hJ1))
     · exact And.left (hQ _ _ _ _ _ rfl rfl rfl rfl (by rw [if_neg (by simp only [cast_nat] at *;omega)];exact ret_eq (by rw [hL,hH];rfl) hK))
end Rd
end Go.Proofs.YtbpihhelojjedaaDoor
namespace Go.Proofs.YtbpihhelojjedaaDoor
open Go Go.RowKit
open Ab
namespace Rd
def shSB (a:CSet × Bool):V:=.tup [setV a.1,fB a.2]
theorem conv_byte {P:Program} {A:Run} {E:Env} (hE:dom P A=E) {b:Int} (h0:0≤b) (h1:b≤255):E.conv .u8 b=(b.toNat:Int):=by rw [e_conv hE,IntKind.wrap_u8];omega
theorem other_end {α:Type} {l:List UInt8} {i:Nat} (h:l.length≤i):(Rx.other l i:Res α)=.bad 1 l.length:=by
 unfold Rx.other Rx.pk;rw [List.getElem?_eq_none h];rfl
theorem pk_end {l:List UInt8} {i:Nat}:Rx.pk l i=-1↔l.length≤i:=by
 constructor
 · intro h
   rcases Nat.lt_or_ge i l.length with g | g
   · unfold Rx.pk at h
     rw [List.getElem?_eq_getElem g] at h
     simp at h
   · exact g
 · intro h;unfold Rx.pk;rw [List.getElem?_eq_none h]
theorem hexv_le (b:Int):Rx.hexv b≤15:=by unfold Rx.hexv;(repeat' split)<;>omega
theorem plain_iff {b:Int}:Rx.plainB b=true↔b=92∨b=46∨b=91∨b=93∨b=40∨b=41∨b=123∨b=125∨b=124∨b=42∨b=43∨b=63∨b=45∨b=94:=by
 unfold Rx.plainB;simp only [List.contains_eq_mem,List.mem_cons,List.not_mem_nil,or_false,decide_eq_true_eq]
set_option maxHeartbeats 8000000 in
theorem escape_x (s:ByteArray) {I:Int} {i:Nat} (op:Int) (hI:I=i) (hi:i<s.size) (hs:s.size≤1000) (q4:Rx.pk s.data.toList (i+1)=120):Meth Tryd.prog 88 74 (rd s I op) [] (rdOut s op shSB (Rx.esc s.data.toList i)):=by
 have hl:s.data.toList.length=s.size:=by simp
 have sp:Rx.esc s.data.toList i=Rx.esc s.data.toList i:=rfl
 conv at sp=>rhs;unfold Rx.esc;rw [q4,if_neg (by decide),if_neg (by decide),if_neg (by decide),if_pos rfl]
 have hi1:i+1<s.data.toList.length:=by
  rcases Nat.lt_or_ge (i+1) s.data.toList.length with g | g
  · exact g
  · rw [pk_end.2 g] at q4;exact absurd q4 (by decide)
 refine methO_of lay_ok (Tryd.call88) (Tryd.func88) rfl ?_;intro A E Q hE hf hQ hP
 have k1:E.ar .add .i64 0 1=1:=e_add hE (by decide) (by decide)
 have k2:E.ar .add .i64 (E.ar .add .i64 0 1) 1=2:=by rw [k1];exact e_add hE (by decide) (by decide)
 have k0:E.ar .mul .i64 16 0=0:=e_mul hE (by decide) (by decide)
 obtain ⟨J1,h1⟩:∃J,J=E.ar .add .i64 I 1:=⟨_,rfl⟩
 have g1:J1=((i+1:Nat):Int):=(h1.trans (e_add hE (by omega) (by omega))).trans (by omega)
 obtain ⟨J2,h2⟩:∃J,J=E.ar .add .i64 J1 1:=⟨_,rfl⟩
 have g2:J2=((i+2:Nat):Int):=(h2.trans (e_add hE (by omega) (by omega))).trans (by omega)
 obtain ⟨J3,h3⟩:∃J,J=E.ar .add .i64 J2 1:=⟨_,rfl⟩
 have g3:J3=((i+3:Nat):Int):=(h3.trans (e_add hE (by omega) (by omega))).trans (by omega)
 obtain ⟨J4,h4⟩:∃J,J=E.ar .add .i64 J3 1:=⟨_,rfl⟩
 have g4:J4=((i+4:Nat):Int):=(h4.trans (e_add hE (by omega) (by omega))).trans (by omega)
 have P1:=peek_l s op g1
 rw [q4,h1] at P1
 obtain ⟨Z,hZ⟩:∃Z:Int,Z=((s.data.toList.length:Nat):Int):=⟨_,rfl⟩
 have hbd2:=pkb s.data.toList (i+2)
 have hpe2:=pk_end (l:=s.data.toList) (i:=i+2)
 have hbd3:=pkb s.data.toList (i+3)
 have hpe3:=pk_end (l:=s.data.toList) (i:=i+3)
 obtain ⟨b2,hb2⟩:∃b,b=Rx.pk s.data.toList (i+2):=⟨_,rfl⟩
 obtain ⟨b3,hb3⟩:∃b,b=Rx.pk s.data.toList (i+3):=⟨_,rfl⟩
 rw [←hb2] at hbd2 hpe2
 rw [←hb3] at hbd3 hpe3
 rw [←hb2,←hb3] at sp
 have e2:=hex_f (b:=b2) (by omega) (by omega)
 have e3:=hex_f (b:=b3) (by omega) (by omega)
 have W2:=fun h=>wrong_end s op (i:=J2) (by omega) h
 have W3:=fun h=>wrong_end s op (i:=J3) (by omega) h
 have P2:=peek_l s op g2
 have P3:=peek_l s op g3
 rw [←hb2] at P2
 rw [←hb3] at P3
 rw [h4,h3,h2,h1] at g4
 rw [h2,h1] at P2 W2
 rw [h3,h2,h1] at P3 W3
 have r2:=hexv_le b2
 have r3:=hexv_le b3
 obtain ⟨v2,hv2⟩:∃v,v=Rx.hexv b2:=⟨_,rfl⟩
 obtain ⟨v3,hv3⟩:∃v,v=Rx.hexv b3:=⟨_,rfl⟩
 rw [←hv2] at e2 sp r2
 rw [←hv3] at e3 sp r3
 by_cases p2:b2=-1
 · rw [if_pos p2] at sp
   have W2:=W2 (by rw [←h1,←h2];have:=hpe2.1 p2;omega)
   rw [←hl,←hZ] at W2
   cbv
   repeat' (first | (refine r_true hE rfl ?_;cbv) | (refine r_false hE rfl ?_;cbv) | (refine use_meth hE P1 rfl rfl rfl rfl rfl ?_;cbv) | (refine use_rounds hE lay_ok 3 ?_;cbv) | (refine c_lssT hE k1 rfl ?_;cbv) | (refine c_lssF hE k2 rfl ?_;cbv) | (refine use_meth hE P2 rfl rfl rfl rfl rfl ?_;cbv) | (refine use_methP hE W2 rfl rfl rfl rfl rfl ?_;cbv) | (refine c_eql hE (fun h=>?_) (fun h=>?_)<;>first | (exfalso;omega) | cbv) | (refine c_neq hE (fun h=>?_) (fun h=>?_)<;>first | (exfalso;omega) | cbv) | (refine c_lss hE (fun h=>?_) (fun h=>?_)<;>first | (exfalso;omega) | cbv) | (refine c_leq hE (fun h=>?_) (fun h=>?_)<;>first | (exfalso;omega) | cbv) | (refine c_gtr hE (fun h=>?_) (fun h=>?_)<;>first | (exfalso;omega) | cbv) | (refine c_geq hE (fun h=>?_) (fun h=>?_)<;>first | (exfalso;omega) | cbv) | (refine c_seql hE (fun h=>?_) (fun h=>?_)<;>first | (exfalso;omega) | cbv) | (refine c_sneq hE (fun h=>?_) (fun h=>?_)<;>first | (exfalso;omega) | cbv) | (refine r_sin hE ?_ ?_ ?_;rotate_left 2;cbv) | (refine r_ssin hE ?_ ?_ ?_ ?_;rotate_left 3;cbv) | (refine use_draw hE lay_ok (by kernel_rfl) (by kernel_rfl) ?_;cbv) | (refine c_b hE (fun h=>?_) (fun h=>?_)<;>cbv))
   exact hP _ _ _ rfl rfl (by rw [sp];exact pan_eq hZ)
 rw [if_neg p2] at sp
 by_cases p3:v2<0
 · rw [if_pos p3] at sp
   cbv
   repeat' (first | (refine r_true hE rfl ?_;cbv) | (refine r_false hE rfl ?_;cbv) | (refine use_meth hE P1 rfl rfl rfl rfl rfl ?_;cbv) | (refine use_rounds hE lay_ok 3 ?_;cbv) | (refine c_lssT hE k1 rfl ?_;cbv) | (refine c_lssF hE k2 rfl ?_;cbv) | (refine use_meth hE P2 rfl rfl rfl rfl rfl ?_;cbv) | (refine use_s hE e2 rfl rfl fun x2 hx2=>?_;cbv) | (refine use_thr hE (fail_t _ _) rfl rfl ?_;cbv) | (refine c_eql hE (fun h=>?_) (fun h=>?_)<;>first | (exfalso;omega) | cbv) | (refine c_neq hE (fun h=>?_) (fun h=>?_)<;>first | (exfalso;omega) | cbv) | (refine c_lss hE (fun h=>?_) (fun h=>?_)<;>first | (exfalso;omega) | cbv) | (refine c_leq hE (fun h=>?_) (fun h=>?_)<;>first | (exfalso;omega) | cbv) | (refine c_gtr hE (fun h=>?_) (fun h=>?_)<;>first | (exfalso;omega) | cbv) | (refine c_geq hE (fun h=>?_) (fun h=>?_)<;>first | (exfalso;omega) | cbv) | (refine c_seql hE (fun h=>?_) (fun h=>?_)<;>first | (exfalso;omega) | cbv) | (refine c_sneq hE (fun h=>?_) (fun h=>?_)<;>first | (exfalso;omega) | cbv) | (refine r_sin hE ?_ ?_ ?_;rotate_left 2;cbv) | (refine r_ssin hE ?_ ?_ ?_ ?_;rotate_left 3;cbv) | (refine use_draw hE lay_ok (by kernel_rfl) (by kernel_rfl) ?_;cbv) | (refine c_b hE (fun h=>?_) (fun h=>?_)<;>cbv))
   exact hP _ _ _ rfl rfl (by rw [sp];exact pan_eq hI)
 rw [if_neg p3] at sp
 by_cases p4:b3=-1
 · rw [if_pos p4] at sp
   have W3:=W3 (by rw [←h1,←h2,←h3];have:=hpe3.1 p4;omega)
   rw [←hl,←hZ] at W3
   cbv
   repeat' (first | (refine r_true hE rfl ?_;cbv) | (refine r_false hE rfl ?_;cbv) | (refine use_meth hE P1 rfl rfl rfl rfl rfl ?_;cbv) | (refine use_rounds hE lay_ok 3 ?_;cbv) | (refine c_lssT hE k1 rfl ?_;cbv) | (refine c_lssF hE k2 rfl ?_;cbv) | (refine use_meth hE P2 rfl rfl rfl rfl rfl ?_;cbv) | (refine use_s hE e2 rfl rfl fun x2 hx2=>?_;cbv) | (refine use_meth hE P3 rfl rfl rfl rfl rfl ?_;cbv) | (refine use_methP hE W3 rfl rfl rfl rfl rfl ?_;cbv) | (refine c_eql hE (fun h=>?_) (fun h=>?_)<;>first | (exfalso;omega) | cbv) | (refine c_neq hE (fun h=>?_) (fun h=>?_)<;>first | (exfalso;omega) | cbv) | (refine c_lss hE (fun h=>?_) (fun h=>?_)<;>first | (exfalso;omega) | cbv) | (refine c_leq hE (fun h=>?_) (fun h=>?_)<;>first | (exfalso;omega) | cbv) | (refine c_gtr hE (fun h=>?_) (fun h=>?_)<;>first | (exfalso;omega) | cbv) | (refine c_geq hE (fun h=>?_) (fun h=>?_)<;>first | (exfalso;omega) | cbv) | (refine c_seql hE (fun h=>?_) (fun h=>?_)<;>first | (exfalso;omega) | cbv) | (refine c_sneq hE (fun h=>?_) (fun h=>?_)<;>first | (exfalso;omega) | cbv) | (refine r_sin hE ?_ ?_ ?_;rotate_left 2;cbv) | (refine r_ssin hE ?_ ?_ ?_ ?_;rotate_left 3;cbv) | (refine use_draw hE lay_ok (by kernel_rfl) (by kernel_rfl) ?_;cbv) | (refine c_b hE (fun h=>?_) (fun h=>?_)<;>cbv))
   exact hP _ _ _ rfl rfl (by rw [sp];exact pan_eq hZ)
 rw [if_neg p4] at sp
 by_cases p5:v3<0
 · rw [if_pos p5] at sp
   cbv
   repeat' (first | (refine r_true hE rfl ?_;cbv) | (refine r_false hE rfl ?_;cbv) | (refine use_meth hE P1 rfl rfl rfl rfl rfl ?_;cbv) | (refine use_rounds hE lay_ok 3 ?_;cbv) | (refine c_lssT hE k1 rfl ?_;cbv) | (refine c_lssF hE k2 rfl ?_;cbv) | (refine use_meth hE P2 rfl rfl rfl rfl rfl ?_;cbv) | (refine use_s hE e2 rfl rfl fun x2 hx2=>?_;cbv) | (refine use_meth hE P3 rfl rfl rfl rfl rfl ?_;cbv) | (refine use_s hE e3 rfl rfl fun x3 hx3=>?_;cbv) | (refine use_thr hE (fail_t _ _) rfl rfl ?_;cbv) | (refine c_eql hE (fun h=>?_) (fun h=>?_)<;>first | (exfalso;omega) | cbv) | (refine c_neq hE (fun h=>?_) (fun h=>?_)<;>first | (exfalso;omega) | cbv) | (refine c_lss hE (fun h=>?_) (fun h=>?_)<;>first | (exfalso;omega) | cbv) | (refine c_leq hE (fun h=>?_) (fun h=>?_)<;>first | (exfalso;omega) | cbv) | (refine c_gtr hE (fun h=>?_) (fun h=>?_)<;>first | (exfalso;omega) | cbv) | (refine c_geq hE (fun h=>?_) (fun h=>?_)<;>first | (exfalso;omega) | cbv) | (refine c_seql hE (fun h=>?_) (fun h=>?_)<;>first | (exfalso;omega) | cbv) | (refine c_sneq hE (fun h=>?_) (fun h=>?_)<;>first | (exfalso;omega) | cbv) | (refine r_sin hE ?_ ?_ ?_;rotate_left 2;cbv) | (refine r_ssin hE ?_ ?_ ?_ ?_;rotate_left 3;cbv) | (refine use_draw hE lay_ok (by kernel_rfl) (by kernel_rfl) ?_;cbv) | (refine c_b hE (fun h=>?_) (fun h=>?_)<;>cbv))
   exact hP _ _ _ rfl rfl (by rw [sp];exact pan_eq hI)
 rw [if_neg p5] at sp
 obtain ⟨N,hN⟩:∃N,N=16*v2+v3:=⟨_,rfl⟩
 rw [←hN] at sp
 have hof:=fun {y:Int} (e:y=N)=>f_of (x:=E.conv .u8 y) (y:=E.conv .u8 y) (lo:=N.toNat) (hi:=N.toNat) (by rw [e];exact conv_byte hE (by omega) (by omega)) (by rw [e];exact conv_byte hE (by omega) (by omega)) (by omega) (by omega)
 have hofE:∀x2 x3,x2=v2→x3=v3→E.ar .add .i64 (E.ar .mul .i64 16 (E.ar .add .i64 (E.ar .mul .i64 16 0) x2)) x3=N:=fun x2 x3 h2 h3=>by
  subst h2 h3
  rw [k0,e_add hE (x:=0) (by omega) (by omega),e_mul hE (by omega) (by omega),e_add hE (by omega) (by omega)];omega
 cbv
 repeat' (first | (refine r_true hE rfl ?_;cbv) | (refine r_false hE rfl ?_;cbv) | (refine use_meth hE P1 rfl rfl rfl rfl rfl ?_;cbv) | (refine use_rounds hE lay_ok 3 ?_;cbv) | (refine c_lssT hE k1 rfl ?_;cbv) | (refine c_lssF hE k2 rfl ?_;cbv) | (refine use_meth hE P2 rfl rfl rfl rfl rfl ?_;cbv) | (refine use_s hE e2 rfl rfl fun x2 hx2=>?_;cbv) | (refine use_meth hE P3 rfl rfl rfl rfl rfl ?_;cbv) | (refine use_s hE e3 rfl rfl fun x3 hx3=>?_;cbv) | (refine use_s hE (hof (hofE _ _ hx2 hx3)) rfl rfl fun x hx=>?_;cbv) | (refine c_eql hE (fun h=>?_) (fun h=>?_)<;>first | (exfalso;omega) | cbv) | (refine c_neq hE (fun h=>?_) (fun h=>?_)<;>first | (exfalso;omega) | cbv) | (refine c_lss hE (fun h=>?_) (fun h=>?_)<;>first | (exfalso;omega) | cbv) | (refine c_leq hE (fun h=>?_) (fun h=>?_)<;>first | (exfalso;omega) | cbv) | (refine c_gtr hE (fun h=>?_) (fun h=>?_)<;>first | (exfalso;omega) | cbv) | (refine c_geq hE (fun h=>?_) (fun h=>?_)<;>first | (exfalso;omega) | cbv) | (refine c_seql hE (fun h=>?_) (fun h=>?_)<;>first | (exfalso;omega) | cbv) | (refine c_sneq hE (fun h=>?_) (fun h=>?_)<;>first | (exfalso;omega) | cbv) | (refine r_sin hE ?_ ?_ ?_;rotate_left 2;cbv) | (refine r_ssin hE ?_ ?_ ?_ ?_;rotate_left 3;cbv) | (refine use_draw hE lay_ok (by kernel_rfl) (by kernel_rfl) ?_;cbv) | (refine c_b hE (fun h=>?_) (fun h=>?_)<;>cbv))
 exact And.left (hQ _ _ _ _ _ rfl rfl rfl rfl (by rw [sp];exact ret_eq (by rw [hx];rfl) g4))
theorem escape_c (s:ByteArray) {I:Int} {i:Nat} (op:Int) (hI:I=i) (hi:i<s.size) (hs:s.size≤1000):Meth Tryd.prog 88 74 (rd s I op) [] (rdOut s op shSB (Rx.esc s.data.toList i)):=by
 have hl:s.data.toList.length=s.size:=by simp
 have hbd:=pkb s.data.toList (i+1)
 have hpe:=pk_end (l:=s.data.toList) (i:=i+1)
 by_cases q4:Rx.pk s.data.toList (i+1)=120
 · exact escape_x s op hI hi hs q4
 obtain ⟨b,hb⟩:∃b,b=Rx.pk s.data.toList (i+1):=⟨_,rfl⟩
 rw [←hb] at q4
 have sp:Rx.esc s.data.toList i=Rx.esc s.data.toList i:=rfl
 conv at sp=>rhs;unfold Rx.esc
 rw [←hb] at hbd hpe sp
 refine methO_of lay_ok (Tryd.call88) (Tryd.func88) rfl ?_;intro A E Q hE hf hQ hP
 obtain ⟨J1,h1⟩:∃J,J=E.ar .add .i64 I 1:=⟨_,rfl⟩
 have g1:J1=((i+1:Nat):Int):=(h1.trans (e_add hE (by omega) (by omega))).trans (by omega)
 obtain ⟨J2,h2⟩:∃J,J=E.ar .add .i64 J1 1:=⟨_,rfl⟩
 have g2:J2=((i+2:Nat):Int):=(h2.trans (e_add hE (by omega) (by omega))).trans (by omega)
 have P1:=peek_l s op g1
 have W1:=fun h=>wrong_end s op (i:=J1) (by omega) h
 rw [←hb] at P1
 obtain ⟨Z,hZ⟩:∃Z:Int,Z=((s.data.toList.length:Nat):Int):=⟨_,rfl⟩
 by_cases q1:b=-1
 · rw [if_pos q1] at sp
   have W1:=W1 (by have:=hpe.1 q1;omega)
   rw [h1] at P1 W1
   rw [←hl,←hZ] at W1
   cbv
   repeat' (first | (refine r_true hE rfl ?_;cbv) | (refine r_false hE rfl ?_;cbv) | (refine use_meth hE P1 rfl rfl rfl rfl rfl ?_;cbv) | (refine use_methP hE W1 rfl rfl rfl rfl rfl ?_;cbv) | (refine c_eql hE (fun h=>?_) (fun h=>?_)<;>first | (exfalso;omega) | cbv) | (refine c_neq hE (fun h=>?_) (fun h=>?_)<;>first | (exfalso;omega) | cbv) | (refine c_lss hE (fun h=>?_) (fun h=>?_)<;>first | (exfalso;omega) | cbv) | (refine c_leq hE (fun h=>?_) (fun h=>?_)<;>first | (exfalso;omega) | cbv) | (refine c_gtr hE (fun h=>?_) (fun h=>?_)<;>first | (exfalso;omega) | cbv) | (refine c_geq hE (fun h=>?_) (fun h=>?_)<;>first | (exfalso;omega) | cbv) | (refine c_seql hE (fun h=>?_) (fun h=>?_)<;>first | (exfalso;omega) | cbv) | (refine c_sneq hE (fun h=>?_) (fun h=>?_)<;>first | (exfalso;omega) | cbv) | (refine r_sin hE ?_ ?_ ?_;rotate_left 2;cbv) | (refine r_ssin hE ?_ ?_ ?_ ?_;rotate_left 3;cbv) | (refine use_draw hE lay_ok (by kernel_rfl) (by kernel_rfl) ?_;cbv) | (refine c_b hE (fun h=>?_) (fun h=>?_)<;>cbv))
   exact hP _ _ _ rfl rfl (by rw [sp];exact pan_eq hZ)
 rw [if_neg q1] at sp
 have hi1:i+1<s.data.toList.length:=by
  rcases Nat.lt_or_ge (i+1) s.data.toList.length with g | g
  · exact g
  · exact absurd (hpe.2 g) q1
 by_cases q2:b=100
 · rw [if_pos q2] at sp
   rw [h1] at P1
   cbv
   repeat' (first | (refine r_true hE rfl ?_;cbv) | (refine r_false hE rfl ?_;cbv) | (refine use_meth hE P1 rfl rfl rfl rfl rfl ?_;cbv) | (refine use_s hE digits_f rfl rfl fun x hx=>?_;cbv) | (refine c_eql hE (fun h=>?_) (fun h=>?_)<;>first | (exfalso;omega) | cbv) | (refine c_neq hE (fun h=>?_) (fun h=>?_)<;>first | (exfalso;omega) | cbv) | (refine c_lss hE (fun h=>?_) (fun h=>?_)<;>first | (exfalso;omega) | cbv) | (refine c_leq hE (fun h=>?_) (fun h=>?_)<;>first | (exfalso;omega) | cbv) | (refine c_gtr hE (fun h=>?_) (fun h=>?_)<;>first | (exfalso;omega) | cbv) | (refine c_geq hE (fun h=>?_) (fun h=>?_)<;>first | (exfalso;omega) | cbv) | (refine c_seql hE (fun h=>?_) (fun h=>?_)<;>first | (exfalso;omega) | cbv) | (refine c_sneq hE (fun h=>?_) (fun h=>?_)<;>first | (exfalso;omega) | cbv) | (refine r_sin hE ?_ ?_ ?_;rotate_left 2;cbv) | (refine r_ssin hE ?_ ?_ ?_ ?_;rotate_left 3;cbv) | (refine use_draw hE lay_ok (by kernel_rfl) (by kernel_rfl) ?_;cbv) | (refine c_b hE (fun h=>?_) (fun h=>?_)<;>cbv))
   exact And.left (hQ _ _ _ _ _ rfl rfl rfl rfl (by rw [sp];exact ret_eq (by rw [hx];rfl) (by rw [h2,h1] at g2;exact g2)))
 rw [if_neg q2] at sp
 by_cases q3:b=119
 · rw [if_pos q3] at sp
   rw [h1] at P1
   cbv
   repeat' (first | (refine r_true hE rfl ?_;cbv) | (refine r_false hE rfl ?_;cbv) | (refine use_meth hE P1 rfl rfl rfl rfl rfl ?_;cbv) | (refine use_s hE words_f rfl rfl fun x hx=>?_;cbv) | (refine c_eql hE (fun h=>?_) (fun h=>?_)<;>first | (exfalso;omega) | cbv) | (refine c_neq hE (fun h=>?_) (fun h=>?_)<;>first | (exfalso;omega) | cbv) | (refine c_lss hE (fun h=>?_) (fun h=>?_)<;>first | (exfalso;omega) | cbv) | (refine c_leq hE (fun h=>?_) (fun h=>?_)<;>first | (exfalso;omega) | cbv) | (refine c_gtr hE (fun h=>?_) (fun h=>?_)<;>first | (exfalso;omega) | cbv) | (refine c_geq hE (fun h=>?_) (fun h=>?_)<;>first | (exfalso;omega) | cbv) | (refine c_seql hE (fun h=>?_) (fun h=>?_)<;>first | (exfalso;omega) | cbv) | (refine c_sneq hE (fun h=>?_) (fun h=>?_)<;>first | (exfalso;omega) | cbv) | (refine r_sin hE ?_ ?_ ?_;rotate_left 2;cbv) | (refine r_ssin hE ?_ ?_ ?_ ?_;rotate_left 3;cbv) | (refine use_draw hE lay_ok (by kernel_rfl) (by kernel_rfl) ?_;cbv) | (refine c_b hE (fun h=>?_) (fun h=>?_)<;>cbv))
   exact And.left (hQ _ _ _ _ _ rfl rfl rfl rfl (by rw [sp];exact ret_eq (by rw [hx];rfl) (by rw [h2,h1] at g2;exact g2)))
 rw [if_neg q3] at sp
 rw [if_neg q4] at sp
 have hb0:0≤b:=by omega
 have hcb:=conv_byte hE hb0 hbd.2
 have hof:=f_of (x:=E.conv .u8 b) (y:=E.conv .u8 b) (lo:=b.toNat) (hi:=b.toNat) hcb hcb (by omega) (by omega)
 rw [h1] at P1
 rw [h2,h1] at g2
 have pl:=plain_iff (b:=b)
 cbv
 repeat' (first | (refine r_true hE rfl ?_;cbv) | (refine r_false hE rfl ?_;cbv) | (refine use_meth hE P1 rfl rfl rfl rfl rfl ?_;cbv) | (refine use_s hE hof rfl rfl fun x hx=>?_;cbv) | (refine use_thr hE (fail_t _ _) rfl rfl ?_;cbv) | (refine c_eql hE (fun h=>?_) (fun h=>?_)<;>first | (exfalso;omega) | cbv) | (refine c_neq hE (fun h=>?_) (fun h=>?_)<;>first | (exfalso;omega) | cbv) | (refine c_lss hE (fun h=>?_) (fun h=>?_)<;>first | (exfalso;omega) | cbv) | (refine c_leq hE (fun h=>?_) (fun h=>?_)<;>first | (exfalso;omega) | cbv) | (refine c_gtr hE (fun h=>?_) (fun h=>?_)<;>first | (exfalso;omega) | cbv) | (refine c_geq hE (fun h=>?_) (fun h=>?_)<;>first | (exfalso;omega) | cbv) | (refine c_seql hE (fun h=>?_) (fun h=>?_)<;>first | (exfalso;omega) | cbv) | (refine c_sneq hE (fun h=>?_) (fun h=>?_)<;>first | (exfalso;omega) | cbv) | (refine r_sin hE ?_ ?_ ?_;rotate_left 2;cbv) | (refine r_ssin hE ?_ ?_ ?_ ?_;rotate_left 3;cbv) | (refine use_draw hE lay_ok (by kernel_rfl) (by kernel_rfl) ?_;cbv) | (refine c_b hE (fun h=>?_) (fun h=>?_)<;>cbv))
 all_goals first | exact hP _ _ _ rfl rfl (by rw [sp,if_neg (fun h=>by have:=pl.1 h;omega)];exact pan_eq hI) | exact And.left (hQ _ _ _ _ _ rfl rfl rfl rfl (by rw [sp,if_pos (pl.2 (by omega))];exact ret_eq (by rw [hx];rfl) g2))
end Rd
end Go.Proofs.YtbpihhelojjedaaDoor
