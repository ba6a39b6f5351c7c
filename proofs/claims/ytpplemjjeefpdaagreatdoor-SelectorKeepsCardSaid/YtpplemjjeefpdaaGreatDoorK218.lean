/- Texts that the proof leans on. -/
import Derived.Test.YtpplemjjeefpdaaGreatDoorK217
set_option linter.unusedVariables false
set_option linter.unusedSimpArgs false
set_option maxRecDepth 100000
set_option maxHeartbeats 4000000
namespace Go.Proofs.YtpplemjjeefpdaaGreatDoor
open Go Go.RowKit
open Ab
namespace Rd
def rdOut {α:Type} (s:ByteArray) (op:Int) (sh:α→V):Res α→Out
 | .ok a p=>.ret (sh a) (rd s p op)
 | .bad e p=>.pan (faultV e p)
 | .out=>.ret .junk []
theorem ret_eq {α:Type} {s:ByteArray} {op:Int} {sh:α→V} {a:α} {p:Nat} {v:V} {J:Int} (hv:nrm v=sh a) (hJ:J=(p:Int)):rdOut s op sh (.ok a p)=.ret (nrm v) [fS s,fI .i64 J,fI .i64 op]:=by subst hJ;rw [hv];rfl
theorem pan_eq {α:Type} {s:ByteArray} {op:Int} {sh:α→V} {e:Int} {p:Nat} {X:Int} (hX:X=(p:Int)):rdOut s op sh (.bad e p:Res α)=.pan (nrm (faultV e X)):=by subst hX;rfl
theorem hex_f {b:Int} (h0: -1≤b) (h1:b≤255):FunS Tryz.prog 193 [fI .i64 b] shI (Rx.hexv b):=by
 refine fun_of lay_ok (Tryz.call193) (Tryz.func193) rfl ?_
 intro A E Q hE hf hQ
 cbv
 repeat' (first | (refine r_true hE rfl ?_;cbv) | (refine r_false hE rfl ?_;cbv) | (refine c_eql hE (fun h=>?_) (fun h=>?_)<;>first | (exfalso;omega) | cbv) | (refine c_neq hE (fun h=>?_) (fun h=>?_)<;>first | (exfalso;omega) | cbv) | (refine c_lss hE (fun h=>?_) (fun h=>?_)<;>first | (exfalso;omega) | cbv) | (refine c_leq hE (fun h=>?_) (fun h=>?_)<;>first | (exfalso;omega) | cbv) | (refine c_gtr hE (fun h=>?_) (fun h=>?_)<;>first | (exfalso;omega) | cbv) | (refine c_geq hE (fun h=>?_) (fun h=>?_)<;>first | (exfalso;omega) | cbv) | (refine c_seql hE (fun h=>?_) (fun h=>?_)<;>first | (exfalso;omega) | cbv) | (refine c_sneq hE (fun h=>?_) (fun h=>?_)<;>first | (exfalso;omega) | cbv) | (refine r_sin hE ?_ ?_ ?_;rotate_left 2;cbv) | (refine r_ssin hE ?_ ?_ ?_ ?_;rotate_left 3;cbv) | (refine use_draw hE lay_ok (by kernel_rfl) (by kernel_rfl) ?_;cbv) | (refine c_b hE (fun h=>?_) (fun h=>?_)<;>cbv))
 all_goals (refine (hQ _ _ _ rfl rfl (nrm_i ?_)).1;subst hE;dsimp only [dom,arF] at *;unfold Rx.hexv;(try simp only [IntKind.wrap_i64]);(repeat' split)<;>omega)
theorem digits_f:FunS Tryz.prog 191 [] setV Rx.digits:=by
 refine fun_of lay_ok (Tryz.call191) (Tryz.func191) rfl ?_
 intro A E Q hE hf hQ
 have h:=f_of (x:=48) (y:=57) (lo:=48) (hi:=57) rfl rfl (by decide) (by decide)
 cbv
 refine use_s hE h rfl rfl fun x hx=>?_
 cbv
 exact And.left (hQ _ _ _ rfl rfl (by rw [hx];rfl))
theorem words_f:FunS Tryz.prog 192 [] setV Rx.words:=by
 refine fun_of lay_ok (Tryz.call192) (Tryz.func192) rfl ?_
 intro A E Q hE hf hQ
 have h1:=f_of (x:=65) (y:=90) (lo:=65) (hi:=90) rfl rfl (by decide) (by decide)
 have h2:=f_of (x:=97) (y:=122) (lo:=97) (hi:=122) rfl rfl (by decide) (by decide)
 have h3:=f_of (x:=95) (y:=95) (lo:=95) (hi:=95) rfl rfl (by decide) (by decide)
 cbv
 refine use_s hE digits_f rfl rfl fun x hx=>?_
 cbv
 refine use_s hE h1 rfl rfl fun x1 hx1=>?_
 cbv
 refine use_s hE (f_or x x1) rfl rfl fun x2 hx2=>?_
 cbv
 refine use_s hE h2 rfl rfl fun x3 hx3=>?_
 cbv
 refine use_s hE h3 rfl rfl fun x4 hx4=>?_
 cbv
 refine use_s hE (f_or x3 x4) rfl rfl fun x5 hx5=>?_
 cbv
 refine use_s hE (f_or x2 x5) rfl rfl fun x6 hx6=>?_
 cbv
 exact (hQ _ _ _ rfl rfl (by subst hx6 hx5 hx4 hx3 hx2 hx1 hx;rfl)).1
theorem need_yes (s:ByteArray) {i:Int} (op:Int) {b:Int} (h0:0≤i) (hb:b=pkI s i) (hp:0≤b) (h1:i≤1000):Meth Tryz.prog 174 163 (rd s i op) [fI .u8 b] (.ret (.tup []) (rd s (i+1) op)):=by
 refine meth_of lay_ok (Tryz.call174) (Tryz.func174) rfl ?_
 intro A E Q hE hf hQ
 have hp:=peek_c s op h0
 have ha:E.ar .add .i64 i 1=i+1:=e_add hE (by omega) (by omega)
 have hc:E.conv .i64 b=b:=by rw [e_conv hE,IntKind.wrap_i64];have:=(pkb s.data.toList i.toNat).2;have:pkI s i≤255:=this;omega
 rw [←hb] at hp
 clear hb
 cbv
 repeat' (first | (refine r_true hE rfl ?_;cbv) | (refine r_false hE rfl ?_;cbv) | (refine use_meth hE hp rfl rfl rfl rfl rfl ?_;cbv) | (refine c_eql hE (fun h=>?_) (fun h=>?_)<;>first | (exfalso;omega) | cbv) | (refine c_neq hE (fun h=>?_) (fun h=>?_)<;>first | (exfalso;omega) | cbv) | (refine c_lss hE (fun h=>?_) (fun h=>?_)<;>first | (exfalso;omega) | cbv) | (refine c_leq hE (fun h=>?_) (fun h=>?_)<;>first | (exfalso;omega) | cbv) | (refine c_gtr hE (fun h=>?_) (fun h=>?_)<;>first | (exfalso;omega) | cbv) | (refine c_geq hE (fun h=>?_) (fun h=>?_)<;>first | (exfalso;omega) | cbv) | (refine c_seql hE (fun h=>?_) (fun h=>?_)<;>first | (exfalso;omega) | cbv) | (refine c_sneq hE (fun h=>?_) (fun h=>?_)<;>first | (exfalso;omega) | cbv) | (refine r_sin hE ?_ ?_ ?_;rotate_left 2;cbv) | (refine r_ssin hE ?_ ?_ ?_ ?_;rotate_left 3;cbv) | (refine use_draw hE lay_ok (by kernel_rfl) (by kernel_rfl) ?_;cbv) | (refine c_b hE (fun h=>?_) (fun h=>?_)<;>cbv))
 · exact absurd hc.symm h
 · refine And.right (hQ _ _ _ _ _ rfl rfl rfl rfl rfl ?_)
   rw [rd,←ha];rfl
theorem need_end (s:ByteArray) {i:Int} (op:Int) {b:Int} (h0:0≤i) (h:(s.size:Int)≤i) (hb:0≤b∧b≤255):Meth Tryz.prog 174 163 (rd s i op) [fI .u8 b] (.pan (faultV 1 s.size)):=by
 refine methP_of lay_ok (Tryz.call174) (Tryz.func174) rfl ?_
 intro A E Q hE hf hP
 have hp:=peek_c s op h0
 have hw:=wrong_end s op h0 h
 have hc:E.conv .i64 b=b:=by rw [e_conv hE,IntKind.wrap_i64];omega
 rw [pkI_ge h0 h] at hp
 generalize ((s.size:Nat):Int)=sz at *
 cbv
 repeat' (first | (refine r_true hE rfl ?_;cbv) | (refine r_false hE rfl ?_;cbv) | (refine use_meth hE hp rfl rfl rfl rfl rfl ?_;cbv) | (refine c_eql hE (fun h=>?_) (fun h=>?_)<;>first | (exfalso;omega) | cbv) | (refine c_neq hE (fun h=>?_) (fun h=>?_)<;>first | (exfalso;omega) | cbv) | (refine c_lss hE (fun h=>?_) (fun h=>?_)<;>first | (exfalso;omega) | cbv) | (refine c_leq hE (fun h=>?_) (fun h=>?_)<;>first | (exfalso;omega) | cbv) | (refine c_gtr hE (fun h=>?_) (fun h=>?_)<;>first | (exfalso;omega) | cbv) | (refine c_geq hE (fun h=>?_) (fun h=>?_)<;>first | (exfalso;omega) | cbv) | (refine c_seql hE (fun h=>?_) (fun h=>?_)<;>first | (exfalso;omega) | cbv) | (refine c_sneq hE (fun h=>?_) (fun h=>?_)<;>first | (exfalso;omega) | cbv) | (refine r_sin hE ?_ ?_ ?_;rotate_left 2;cbv) | (refine r_ssin hE ?_ ?_ ?_ ?_;rotate_left 3;cbv) | (refine use_draw hE lay_ok (by kernel_rfl) (by kernel_rfl) ?_;cbv) | (refine c_b hE (fun h=>?_) (fun h=>?_)<;>cbv))
 · refine use_methP hE hw rfl rfl rfl rfl rfl ?_
   exact hP _ _ _ rfl rfl rfl
 · exact absurd (h.trans hc) (by omega)
theorem need_form (s:ByteArray) {i:Int} (op:Int) {b:Int} (h0:0≤i) (h:i<(s.size:Int)) (hb:0≤b∧b≤255) (hn:pkI s i≠b):Meth Tryz.prog 174 163 (rd s i op) [fI .u8 b] (.pan (faultV 2 i)):=by
 refine methP_of lay_ok (Tryz.call174) (Tryz.func174) rfl ?_
 intro A E Q hE hf hP
 have hp:=peek_c s op h0
 have hw:=wrong_form s op h0 h
 have hc:E.conv .i64 b=b:=by rw [e_conv hE,IntKind.wrap_i64];omega
 generalize pkI s i=x at *
 cbv
 repeat' (first | (refine r_true hE rfl ?_;cbv) | (refine r_false hE rfl ?_;cbv) | (refine use_meth hE hp rfl rfl rfl rfl rfl ?_;cbv) | (refine c_eql hE (fun h=>?_) (fun h=>?_)<;>first | (exfalso;omega) | cbv) | (refine c_neq hE (fun h=>?_) (fun h=>?_)<;>first | (exfalso;omega) | cbv) | (refine c_lss hE (fun h=>?_) (fun h=>?_)<;>first | (exfalso;omega) | cbv) | (refine c_leq hE (fun h=>?_) (fun h=>?_)<;>first | (exfalso;omega) | cbv) | (refine c_gtr hE (fun h=>?_) (fun h=>?_)<;>first | (exfalso;omega) | cbv) | (refine c_geq hE (fun h=>?_) (fun h=>?_)<;>first | (exfalso;omega) | cbv) | (refine c_seql hE (fun h=>?_) (fun h=>?_)<;>first | (exfalso;omega) | cbv) | (refine c_sneq hE (fun h=>?_) (fun h=>?_)<;>first | (exfalso;omega) | cbv) | (refine r_sin hE ?_ ?_ ?_;rotate_left 2;cbv) | (refine r_ssin hE ?_ ?_ ?_ ?_;rotate_left 3;cbv) | (refine use_draw hE lay_ok (by kernel_rfl) (by kernel_rfl) ?_;cbv) | (refine c_b hE (fun h=>?_) (fun h=>?_)<;>cbv))
 · refine use_methP hE hw rfl rfl rfl rfl rfl ?_
   exact hP _ _ _ rfl rfl rfl
 · exact absurd (h.trans hc) hn
theorem sat_pk {P:Program} {A:Run} {E:Env} (hE:dom P A=E) {s:ByteArray} {I:Int} {i:Nat} (hI:I=(i:Int)) (h:i<s.size):E.sat s I=Rx.pk s.data.toList i:=by
 rw [e_sat hE]
 have:=pkI_lt (s:=s) (i:=I) (by omega) (by omega)
 unfold pkI at this
 rw [show i=I.toNat by omega]
 exact this.symm
theorem digs_step {l:List UInt8} {n j:Nat} (hj:j<l.length):Rx.digs l (l.length-j) n j=if Rx.digitB (Rx.pk l j) then Rx.digs l (l.length-(j+1)) (Nat.min (10*n+(Rx.pk l j-48).toNat) 1000) (j+1) else (n,j):=by
 rw [show l.length-j=(l.length-(j+1))+1 by omega];rfl
end Rd
end Go.Proofs.YtpplemjjeefpdaaGreatDoor
namespace Go.Proofs.YtpplemjjeefpdaaGreatDoor
open Go Go.RowKit
open Ab
namespace Rd
theorem digs_end {l:List UInt8} {n j:Nat} (hj:j≤l.length) (h:¬(48≤Rx.pk l j∧Rx.pk l j≤57)):Rx.digs l (l.length-j) n j=(n,j):=by
 by_cases hl:j<l.length
 · rw [digs_step hl,if_neg]
   simp only [Rx.digitB,Bool.and_eq_true,decide_eq_true_eq]
   exact h
 · rw [show l.length-j=0 by omega];rfl
theorem number_c (s:ByteArray) {I:Int} {i:Nat} (op:Int) (hI:I=i) (hi:i≤s.size) (hs:s.size≤1000):Meth Tryz.prog 185 163 (rd s I op) [] (rdOut s op (fun n:Nat=>fI .i64 n) (Rx.number s.data.toList i)):=by
 have hl:s.data.toList.length=s.size:=by simp
 refine methO_of lay_ok (Tryz.call185) (Tryz.func185) rfl ?_
 intro A E Q hE hf hQ hP
 cbv
 refine use_for hE lay_ok 1 (fun g:Int × Int=>[(4,fI .i64 g.1)]) (fun g=>[(0,.box 163 (rd s g.2 op))]) (fun g=>∃n j:Nat,g=((n:Int),(j:Int))∧i≤j∧j≤s.size∧n≤1000∧Rx.digs s.data.toList (s.data.toList.length-j) n j=Rx.digs s.data.toList (s.data.toList.length-i) 0 i) (fun g=>((s.size:Int)-g.2).toNat) (0,I) ⟨0,i,by rw [hI];rfl,Nat.le_refl _,hi,by omega,rfl⟩ (by cbv) ?_
 rintro ⟨N,J⟩ ⟨n,j,e,h1,h2,h3,h4⟩ Q' hN hR hX
 obtain ⟨eN,eJ⟩:=Prod.mk.inj e
 simp only [cast_nat] at hI eN eJ
 have hp:=peek_c s op (i:=J) (by omega)
 have hx:pkI s J=Rx.pk s.data.toList j:=by rw [eJ];rfl
 have hb:=pkb s.data.toList j
 have ha:E.ar .add .i64 J 1=((j+1:Nat):Int):=(e_add hE (by omega) (by omega)).trans (by omega)
 obtain ⟨b,hbb⟩:∃b,b=Rx.pk s.data.toList j:=⟨_,rfl⟩
 rw [hx,←hbb] at hp
 rw [←hbb] at hb
 have hw1:=fun h=>wrong_end s op (i:=J) (by omega) h
 have hw2:=fun h=>wrong_form s op (i:=J) (by omega) h
 by_cases hd:48≤b∧b≤57
 · have hj:j<s.data.toList.length:=pk_in (by omega)
   have hn:E.imin (E.ar .sub .i64 (E.ar .add .i64 (E.ar .mul .i64 10 N) b) 48) 1000=((Nat.min (10*n+(b-48).toNat) 1000:Nat):Int):=by
    rw [e_mul hE (by omega) (by omega),e_add hE (by omega) (by omega),e_sub hE (by omega) (by omega),e_imin hE,eN]
    show _=((min (10*n+(b-48).toNat) 1000:Nat):Int)
    split<;>omega
   rw [digs_step hj,←hbb,if_pos (by simp only [Rx.digitB,Bool.and_eq_true,decide_eq_true_eq];exact hd)] at h4
   cbv
   repeat' (first | (refine r_true hE rfl ?_;cbv) | (refine r_false hE rfl ?_;cbv) | (refine use_meth hE hp rfl rfl rfl rfl rfl ?_;cbv) | (refine c_eql hE (fun h=>?_) (fun h=>?_)<;>first | (exfalso;omega) | cbv) | (refine c_neq hE (fun h=>?_) (fun h=>?_)<;>first | (exfalso;omega) | cbv) | (refine c_lss hE (fun h=>?_) (fun h=>?_)<;>first | (exfalso;omega) | cbv) | (refine c_leq hE (fun h=>?_) (fun h=>?_)<;>first | (exfalso;omega) | cbv) | (refine c_gtr hE (fun h=>?_) (fun h=>?_)<;>first | (exfalso;omega) | cbv) | (refine c_geq hE (fun h=>?_) (fun h=>?_)<;>first | (exfalso;omega) | cbv) | (refine c_seql hE (fun h=>?_) (fun h=>?_)<;>first | (exfalso;omega) | cbv) | (refine c_sneq hE (fun h=>?_) (fun h=>?_)<;>first | (exfalso;omega) | cbv) | (refine r_sin hE ?_ ?_ ?_;rotate_left 2;cbv) | (refine r_ssin hE ?_ ?_ ?_ ?_;rotate_left 3;cbv) | (refine use_draw hE lay_ok (by kernel_rfl) (by kernel_rfl) ?_;cbv) | (refine c_b hE (fun h=>?_) (fun h=>?_)<;>cbv))
   refine hN _ (_,_) ⟨_,_,Prod.ext hn ha,by omega,by omega,Nat.min_le_right _ _,h4⟩ ?_ (by cbv)
   show ((s.size:Int)-E.ar .add .i64 J 1).toNat<((s.size:Int)-J).toNat
   rw [ha];clear hN hR hX hp hQ hP hw1 hw2;(simp only [cast_nat] at *;omega)
 · have hD:=digs_end (n:=n) (j:=j) (l:=s.data.toList) (by omega) (by rw [←hbb];exact hd)
   rw [hD] at h4
   have hJ:(s.size:Int)≤J→Rx.other s.data.toList j=(.bad 1 s.data.toList.length:Res Nat):=fun h=>by
    unfold Rx.other;rw [←hx,pkI_ge (by omega) h];rfl
   have hJ2:J<(s.size:Int)→Rx.other s.data.toList j=(.bad 2 j:Res Nat):=fun h=>by
    unfold Rx.other;rw [←hx,pkI_lt (by omega) h,if_neg (by omega)]
   have e2:E.ar .add .i64 I 1=I+1:=e_add hE (by omega) (by omega)
   have hsat0:=fun h:i<s.size=>sat_pk hE hI h
   have hij:I=J→i=j:=fun h=>by omega
   have hnum:Rx.number s.data.toList i=if j=i then Rx.other s.data.toList i else if Rx.pk s.data.toList i=48∧j>i+1 then .bad 2 i else if n>16 then .bad 3 i else .ok n j:=by
    unfold Rx.number;rw [←h4]
   cbv
   repeat' (first | (refine r_true hE rfl ?_;cbv) | (refine r_false hE rfl ?_;cbv) | (refine use_meth hE hp rfl rfl rfl rfl rfl ?_;cbv) | (refine c_eql hE (fun h=>?_) (fun h=>?_)<;>first | (exfalso;omega) | cbv) | (refine c_neq hE (fun h=>?_) (fun h=>?_)<;>first | (exfalso;omega) | cbv) | (refine c_lss hE (fun h=>?_) (fun h=>?_)<;>first | (exfalso;omega) | cbv) | (refine c_leq hE (fun h=>?_) (fun h=>?_)<;>first | (exfalso;omega) | cbv) | (refine c_gtr hE (fun h=>?_) (fun h=>?_)<;>first | (exfalso;omega) | cbv) | (refine c_geq hE (fun h=>?_) (fun h=>?_)<;>first | (exfalso;omega) | cbv) | (refine c_seql hE (fun h=>?_) (fun h=>?_)<;>first | (exfalso;omega) | cbv) | (refine c_sneq hE (fun h=>?_) (fun h=>?_)<;>first | (exfalso;omega) | cbv) | (refine r_sin hE ?_ ?_ ?_;rotate_left 2;cbv) | (refine r_ssin hE ?_ ?_ ?_ ?_;rotate_left 3;cbv) | (refine use_draw hE lay_ok (by kernel_rfl) (by kernel_rfl) ?_;cbv) | (refine c_b hE (fun h=>?_) (fun h=>?_)<;>cbv))
   all_goals (refine hX _ _ ?_;cbv)
   repeat' (first | (refine r_true hE rfl ?_;cbv) | (refine r_false hE rfl ?_;cbv) | (refine c_eql hE (fun h=>?_) (fun h=>?_)<;>first | (exfalso;omega) | cbv) | (refine c_neq hE (fun h=>?_) (fun h=>?_)<;>first | (exfalso;omega) | cbv) | (refine c_lss hE (fun h=>?_) (fun h=>?_)<;>first | (exfalso;omega) | cbv) | (refine c_leq hE (fun h=>?_) (fun h=>?_)<;>first | (exfalso;omega) | cbv) | (refine c_gtr hE (fun h=>?_) (fun h=>?_)<;>first | (exfalso;omega) | cbv) | (refine c_geq hE (fun h=>?_) (fun h=>?_)<;>first | (exfalso;omega) | cbv) | (refine c_seql hE (fun h=>?_) (fun h=>?_)<;>first | (exfalso;omega) | cbv) | (refine c_sneq hE (fun h=>?_) (fun h=>?_)<;>first | (exfalso;omega) | cbv) | (refine r_sin hE ?_ ?_ ?_;rotate_left 2;cbv) | (refine r_ssin hE ?_ ?_ ?_ ?_;rotate_left 3;cbv) | (refine use_draw hE lay_ok (by kernel_rfl) (by kernel_rfl) ?_;cbv) | (refine c_b hE (fun h=>?_) (fun h=>?_)<;>cbv))
   all_goals clear hN hR hX
   all_goals first
    | (refine use_thr hE (fail_t _ _) rfl rfl ?_;refine hP _ _ _ rfl rfl ?_)
    | (refine And.left (hQ _ _ _ _ _ rfl rfl rfl rfl ?_))
    | (simp only [cast_nat] at *;omega)
    | (rcases Int.lt_or_le J s.size with hh | hh;(refine use_methP hE (hw2 hh) rfl rfl rfl rfl rfl ?_;refine hP _ _ _ rfl rfl ?_;rw [hnum,if_pos (by simp only [cast_nat] at *;omega),hij (by simp only [cast_nat] at *;omega),hJ2 hh,eJ];try rfl);(refine use_methP hE (hw1 hh) rfl rfl rfl rfl rfl ?_;refine hP _ _ _ rfl rfl ?_;rw [hnum,if_pos (by simp only [cast_nat] at *;omega),hij (by simp only [cast_nat] at *;omega),hJ hh,hl];try rfl))
   all_goals first
    | (simp only [cast_nat] at *;omega)
    | skip
   all_goals (rw [hnum];simp only [cast_nat] at *)
   all_goals (rw [if_neg (by omega)])
   all_goals (have hsat:=hsat0 (by omega);rw [e2] at *)
   all_goals first
    | (rw [if_pos ⟨by omega,by omega⟩,hI];try rfl)
    | (rw [if_neg (by omega),if_pos (by omega),hI];try rfl)
    | (rw [if_neg (by omega),if_neg (by omega),eN,eJ];try rfl)
end Rd
end Go.Proofs.YtpplemjjeefpdaaGreatDoor
namespace Go.Proofs.YtpplemjjeefpdaaGreatDoor
open Go Go.RowKit
open Ab
namespace Rd
def shII (a:Int × Int):V:=.tup [fI .i64 a.1,fI .i64 a.2]
theorem peek_l (s:ByteArray) {I:Int} {i:Nat} (op:Int) (hI:I=i):Meth Tryz.prog 154 163 (rd s I op) [] (.ret (fI .i64 (Rx.pk s.data.toList i)) (rd s I op)):=by
 have:=peek_c s op (i:=I) (by omega)
 rw [show pkI s I=Rx.pk s.data.toList i by unfold pkI;rw [hI];rfl] at this
 exact this
theorem braces_c (s:ByteArray) {I:Int} {i:Nat} (op:Int) (hI:I=i) (hi:i≤s.size) (hs:s.size≤1000):Meth Tryz.prog 173 163 (rd s I op) [] (rdOut s op shII (Rx.brc s.data.toList i)):=by
 have hl:s.data.toList.length=s.size:=by simp
 have N1:=number_c s op hI hi hs
 have F1:=fine_number s.data.toList i (by omega)
 unfold Rx.brc
 cases hr:Rx.number s.data.toList i with
 | out=>rw [hr] at F1;exact F1.elim
 | bad e p=>
   rw [hr] at N1
   have N1:Meth Tryz.prog _ _ _ _ (.pan (faultV e p)):=N1
   refine methO_of lay_ok (Tryz.call173) (Tryz.func173) rfl ?_;intro A E Q hE hf hQ hP
   obtain ⟨X,hX⟩:∃X:Int,X=(p:Int):=⟨_,rfl⟩
   rw [←hX] at N1
   cbv
   refine use_methP hE N1 rfl rfl rfl rfl rfl ?_
   exact hP _ _ _ rfl rfl (pan_eq hX)
 | ok low p=>
   rw [hr] at N1 F1
   have F1:i<p∧p≤s.data.toList.length:=F1
   obtain ⟨L,hL⟩:∃L:Int,L=(low:Int):=⟨_,rfl⟩
   obtain ⟨J,hJ⟩:∃J:Int,J=(p:Int):=⟨_,rfl⟩
   have N1:Meth Tryz.prog _ _ _ _ (.ret (fI .i64 (low:Int)) (rd s (p:Int) op)):=N1
   rw [←hL,←hJ] at N1
   have P1:=peek_l s op hJ
   dsimp only
   obtain ⟨b,hb⟩:∃b,b=Rx.pk s.data.toList p:=⟨_,rfl⟩
   rw [←hb] at P1 ⊢
   by_cases h44:b=44
   case neg=>
    rw [if_neg h44]
    refine methO_of lay_ok (Tryz.call173) (Tryz.func173) rfl ?_;intro A E Q hE hf hQ hP
    cbv
    repeat' (first | (refine r_true hE rfl ?_;cbv) | (refine r_false hE rfl ?_;cbv) | (refine use_meth hE N1 rfl rfl rfl rfl rfl ?_;cbv) | (refine use_meth hE P1 rfl rfl rfl rfl rfl ?_;cbv) | (refine c_eql hE (fun h=>?_) (fun h=>?_)<;>first | (exfalso;omega) | cbv) | (refine c_neq hE (fun h=>?_) (fun h=>?_)<;>first | (exfalso;omega) | cbv) | (refine c_lss hE (fun h=>?_) (fun h=>?_)<;>first | (exfalso;omega) | cbv) | (refine c_leq hE (fun h=>?_) (fun h=>?_)<;>first | (exfalso;omega) | cbv) | (refine c_gtr hE (fun h=>?_) (fun h=>?_)<;>first | (exfalso;omega) | cbv) | (refine c_geq hE (fun h=>?_) (fun h=>?_)<;>first | (exfalso;omega) | cbv) | (refine c_seql hE (fun h=>?_) (fun h=>?_)<;>first | (exfalso;omega) | cbv) | (refine c_sneq hE (fun h=>?_) (fun h=>?_)<;>first | (exfalso;omega) | cbv) | (refine r_sin hE ?_ ?_ ?_;rotate_left 2;cbv) | (refine r_ssin hE ?_ ?_ ?_ ?_;rotate_left 3;cbv) | (refine use_draw hE lay_ok (by kernel_rfl) (by kernel_rfl) ?_;cbv) | (refine c_b hE (fun h=>?_) (fun h=>?_)<;>cbv))
    · refine use_thr hE (fail_t _ _) rfl rfl ?_
      exact hP _ _ _ rfl rfl (by rw [if_pos (by simp only [cast_nat] at *;omega)];exact pan_eq hI)
    · exact And.left (hQ _ _ _ _ _ rfl rfl rfl rfl (by rw [if_neg (by simp only [cast_nat] at *;omega)];exact ret_eq (by rw [hL];rfl) hJ))
   rw [if_pos h44]
   have hp:p<s.data.toList.length:=pk_in (by rw [←hb];omega)
   obtain ⟨J1,hJ1⟩:∃J:Int,J=((p+1:Nat):Int):=⟨_,rfl⟩
   have P2:=peek_l s op hJ1
   obtain ⟨c,hc⟩:∃b,b=Rx.pk s.data.toList (p+1):=⟨_,rfl⟩
   have ha:∀{A:Run} {E:Env},dom Tryz.prog A=E→E.ar .add .i64 J 1=J1:=fun hE=>(e_add hE (by omega) (by omega)).trans (by omega)
   rw [←hc] at P2 ⊢
   by_cases h125:c=125
   · rw [if_pos h125]
     refine methO_of lay_ok (Tryz.call173) (Tryz.func173) rfl ?_;intro A E Q hE hf hQ hP
     have ha:=ha hE
     rw [←ha] at P2
     cbv
     repeat' (first | (refine r_true hE rfl ?_;cbv) | (refine r_false hE rfl ?_;cbv) | (refine use_meth hE N1 rfl rfl rfl rfl rfl ?_;cbv) | (refine use_meth hE P1 rfl rfl rfl rfl rfl ?_;cbv) | (refine use_meth hE P2 rfl rfl rfl rfl rfl ?_;cbv) | (refine c_eql hE (fun h=>?_) (fun h=>?_)<;>first | (exfalso;omega) | cbv) | (refine c_neq hE (fun h=>?_) (fun h=>?_)<;>first | (exfalso;omega) | cbv) | (refine c_lss hE (fun h=>?_) (fun h=>?_)<;>first | (exfalso;omega) | cbv) | (refine c_leq hE (fun h=>?_) (fun h=>?_)<;>first | (exfalso;omega) | cbv) | (refine c_gtr hE (fun h=>?_) (fun h=>?_)<;>first | (exfalso;omega) | cbv) | (refine c_geq hE (fun h=>?_) (fun h=>?_)<;>first | (exfalso;omega) | cbv) | (refine c_seql hE (fun h=>?_) (fun h=>?_)<;>first | (exfalso;omega) | cbv) | (refine c_sneq hE (fun h=>?_) (fun h=>?_)<;>first | (exfalso;omega) | cbv) | (refine r_sin hE ?_ ?_ ?_;rotate_left 2;cbv) | (refine r_ssin hE ?_ ?_ ?_ ?_;rotate_left 3;cbv) | (refine use_draw hE lay_ok (by kernel_rfl) (by kernel_rfl) ?_;cbv) | (refine c_b hE (fun h=>?_) (fun h=>?_)<;>cbv))
     exact And.left (hQ _ _ _ _ _ rfl rfl rfl rfl (ret_eq (by rw [hL];rfl) (ha.trans hJ1)))
   rw [if_neg h125]
   have N2:=number_c s op hJ1 (by omega) hs
   have F2:=fine_number s.data.toList (p+1) (by omega)
   cases hr2:Rx.number s.data.toList (p+1) with
   | out=>rw [hr2] at F2;exact F2.elim
   | bad e q=>
     rw [hr2] at N2
     obtain ⟨X,hX⟩:∃X:Int,X=(q:Int):=⟨_,rfl⟩
     have N2:Meth Tryz.prog _ _ _ _ (.pan (faultV e q)):=N2
     rw [←hX] at N2
     refine methO_of lay_ok (Tryz.call173) (Tryz.func173) rfl ?_;intro A E Q hE hf hQ hP
     have ha:=ha hE
     rw [←ha] at P2 N2
     cbv
     repeat' (first | (refine r_true hE rfl ?_;cbv) | (refine r_false hE rfl ?_;cbv) | (refine use_meth hE N1 rfl rfl rfl rfl rfl ?_;cbv) | (refine use_meth hE P1 rfl rfl rfl rfl rfl ?_;cbv) | (refine use_meth hE P2 rfl rfl rfl rfl rfl ?_;cbv) | (refine c_eql hE (fun h=>?_) (fun h=>?_)<;>first | (exfalso;omega) | cbv) | (refine c_neq hE (fun h=>?_) (fun h=>?_)<;>first | (exfalso;omega) | cbv) | (refine c_lss hE (fun h=>?_) (fun h=>?_)<;>first | (exfalso;omega) | cbv) | (refine c_leq hE (fun h=>?_) (fun h=>?_)<;>first | (exfalso;omega) | cbv) | (refine c_gtr hE (fun h=>?_) (fun h=>?_)<;>first | (exfalso;omega) | cbv) | (refine c_geq hE (fun h=>?_) (fun h=>?_)<;>first | (exfalso;omega) | cbv) | (refine c_seql hE (fun h=>?_) (fun h=>?_)<;>first | (exfalso;omega) | cbv) | (refine c_sneq hE (fun h=>?_) (fun h=>?_)<;>first | (exfalso;omega) | cbv) | (refine r_sin hE ?_ ?_ ?_;rotate_left 2;cbv) | (refine r_ssin hE ?_ ?_ ?_ ?_;rotate_left 3;cbv) | (refine use_draw hE lay_ok (by kernel_rfl) (by kernel_rfl) ?_;cbv) | (refine c_b hE (fun h=>?_) (fun h=>?_)<;>cbv))
     refine use_methP hE N2 rfl rfl rfl rfl rfl ?_
     exact hP _ _ _ rfl rfl (pan_eq hX)
   | ok high q=>
     rw [hr2] at N2
     obtain ⟨H,hH⟩:∃L:Int,L=(high:Int):=⟨_,rfl⟩
     obtain ⟨K,hK⟩:∃J:Int,J=(q:Int):=⟨_,rfl⟩
     have N2:Meth Tryz.prog _ _ _ _ (.ret (fI .i64 (high:Int)) (rd s (q:Int) op)):=N2
     rw [←hH,←hK] at N2
     dsimp only
     refine methO_of lay_ok (Tryz.call173) (Tryz.func173) rfl ?_;intro A E Q hE hf hQ hP
     have ha:=ha hE
     rw [←ha] at P2 N2
     cbv
     repeat' (first | (refine r_true hE rfl ?_;cbv) | (refine r_false hE rfl ?_;cbv) | (refine use_meth hE N1 rfl rfl rfl rfl rfl ?_;cbv) | (refine use_meth hE P1 rfl rfl rfl rfl rfl ?_;cbv) | (refine use_meth hE P2 rfl rfl rfl rfl rfl ?_;cbv) | (refine use_meth hE N2 rfl rfl rfl rfl rfl ?_;cbv) | (refine c_eql hE (fun h=>?_) (fun h=>?_)<;>first | (exfalso;omega) | cbv) | (refine c_neq hE (fun h=>?_) (fun h=>?_)<;>first | (exfalso;omega) | cbv) | (refine c_lss hE (fun h=>?_) (fun h=>?_)<;>first | (exfalso;omega) | cbv) | (refine c_leq hE (fun h=>?_) (fun h=>?_)<;>first | (exfalso;omega) | cbv) | (refine c_gtr hE (fun h=>?_) (fun h=>?_)<;>first | (exfalso;omega) | cbv) | (refine c_geq hE (fun h=>?_) (fun h=>?_)<;>first | (exfalso;omega) | cbv) | (refine c_seql hE (fun h=>?_) (fun h=>?_)<;>first | (exfalso;omega) | cbv) | (refine c_sneq hE (fun h=>?_) (fun h=>?_)<;>first | (exfalso;omega) | cbv) | (refine r_sin hE ?_ ?_ ?_;rotate_left 2;cbv) | (refine r_ssin hE ?_ ?_ ?_ ?_;rotate_left 3;cbv) | (refine use_draw hE lay_ok (by kernel_rfl) (by kernel_rfl) ?_;cbv) | (refine c_b hE (fun h=>?_) (fun h=>?_)<;>cbv))
     · refine use_thr hE (fail_t _ _) rfl rfl ?_
       exact hP _ _ _ rfl rfl (by rw [if_pos (by simp only [cast_nat] at *;omega)];exact pan_eq (ha.trans hJ1))
     · refine use_thr hE (fail_t _ _) rfl rfl ?_
       exact hP _ _ _ rfl rfl (by rw [if_pos (by simp only [cast_nat] at *;omega)];exact pan_eq (ha.trans hJ1))
     · exact And.left (hQ _ _ _ _ _ rfl rfl rfl rfl (by rw [if_neg (by simp only [cast_nat] at *;omega)];exact ret_eq (by rw [hL,hH];rfl) hK))
end Rd
end Go.Proofs.YtpplemjjeefpdaaGreatDoor
