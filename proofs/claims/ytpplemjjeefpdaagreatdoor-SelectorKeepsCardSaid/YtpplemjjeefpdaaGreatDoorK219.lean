/- Texts that the proof leans on. -/
import Derived.Test.YtpplemjjeefpdaaGreatDoorK218
set_option linter.unusedVariables false
set_option linter.unusedSimpArgs false
set_option maxRecDepth 100000
set_option maxHeartbeats 4000000
namespace Go.Proofs.YtpplemjjeefpdaaGreatDoor
open Go Go.RowKit
open Ab
namespace Rd
def shSB (a:CSet × Bool):V:=.tup [setV a.1,fB a.2]
theorem conv_byte {P:Program} {A:Run} {E:Env} (hE:dom P A=E) {b:Int} (h0:0≤b) (h1:b≤255):E.conv .u8 b=(b.toNat:Int):=by rw [e_conv hE,IntKind.wrap_u8];omega
theorem other_end {α:Type} {l:List UInt8} {i:Nat} (h:l.length≤i):(Rx.other l i:Res α)=.bad 1 l.length:=by
 unfold Rx.other Rx.pk;rw [List.getElem?_eq_none h];rfl
theorem pk_end {l:List UInt8} {i:Nat}:Rx.pk l i=-1↔l.length≤i:=by
 constructor
 · intro h
   rcases Nat.lt_or_ge i l.length with g | g
   · unfold Rx.pk at h
     rw [List.getElem?_eq_getElem g] at h
     simp at h
   · exact g
 · intro h;unfold Rx.pk;rw [List.getElem?_eq_none h]
theorem hexv_le (b:Int):Rx.hexv b≤15:=by unfold Rx.hexv;(repeat' split)<;>omega
theorem plain_iff {b:Int}:Rx.plainB b=true↔b=92∨b=46∨b=91∨b=93∨b=40∨b=41∨b=123∨b=125∨b=124∨b=42∨b=43∨b=63∨b=45∨b=94:=by
 unfold Rx.plainB;simp only [List.contains_eq_mem,List.mem_cons,List.not_mem_nil,or_false,decide_eq_true_eq]
set_option maxHeartbeats 8000000 in
theorem escape_x (s:ByteArray) {I:Int} {i:Nat} (op:Int) (hI:I=i) (hi:i<s.size) (hs:s.size≤1000) (q4:Rx.pk s.data.toList (i+1)=120):Meth Tryz.prog 184 163 (rd s I op) [] (rdOut s op shSB (Rx.esc s.data.toList i)):=by
 have hl:s.data.toList.length=s.size:=by simp
 have sp:Rx.esc s.data.toList i=Rx.esc s.data.toList i:=rfl
 conv at sp=>rhs;unfold Rx.esc;rw [q4,if_neg (by decide),if_neg (by decide),if_neg (by decide),if_pos rfl]
 have hi1:i+1<s.data.toList.length:=by
  rcases Nat.lt_or_ge (i+1) s.data.toList.length with g | g
  · exact g
  · rw [pk_end.2 g] at q4;exact absurd q4 (by decide)
 refine methO_of lay_ok (Tryz.call184) (Tryz.func184) rfl ?_;intro A E Q hE hf hQ hP
 have k1:E.ar .add .i64 0 1=1:=e_add hE (by decide) (by decide)
 have k2:E.ar .add .i64 (E.ar .add .i64 0 1) 1=2:=by rw [k1];exact e_add hE (by decide) (by decide)
 have k0:E.ar .mul .i64 16 0=0:=e_mul hE (by decide) (by decide)
 obtain ⟨J1,h1⟩:∃J,J=E.ar .add .i64 I 1:=⟨_,rfl⟩
 have g1:J1=((i+1:Nat):Int):=(h1.trans (e_add hE (by omega) (by omega))).trans (by omega)
 obtain ⟨J2,h2⟩:∃J,J=E.ar .add .i64 J1 1:=⟨_,rfl⟩
 have g2:J2=((i+2:Nat):Int):=(h2.trans (e_add hE (by omega) (by omega))).trans (by omega)
 obtain ⟨J3,h3⟩:∃J,J=E.ar .add .i64 J2 1:=⟨_,rfl⟩
 have g3:J3=((i+3:Nat):Int):=(h3.trans (e_add hE (by omega) (by omega))).trans (by omega)
 obtain ⟨J4,h4⟩:∃J,J=E.ar .add .i64 J3 1:=⟨_,rfl⟩
 have g4:J4=((i+4:Nat):Int):=(h4.trans (e_add hE (by omega) (by omega))).trans (by omega)
 have P1:=peek_l s op g1
 rw [q4,h1] at P1
 obtain ⟨Z,hZ⟩:∃Z:Int,Z=((s.data.toList.length:Nat):Int):=⟨_,rfl⟩
 have hbd2:=pkb s.data.toList (i+2)
 have hpe2:=pk_end (l:=s.data.toList) (i:=i+2)
 have hbd3:=pkb s.data.toList (i+3)
 have hpe3:=pk_end (l:=s.data.toList) (i:=i+3)
 obtain ⟨b2,hb2⟩:∃b,b=Rx.pk s.data.toList (i+2):=⟨_,rfl⟩
 obtain ⟨b3,hb3⟩:∃b,b=Rx.pk s.data.toList (i+3):=⟨_,rfl⟩
 rw [←hb2] at hbd2 hpe2
 rw [←hb3] at hbd3 hpe3
 rw [←hb2,←hb3] at sp
 have e2:=hex_f (b:=b2) (by omega) (by omega)
 have e3:=hex_f (b:=b3) (by omega) (by omega)
 have W2:=fun h=>wrong_end s op (i:=J2) (by omega) h
 have W3:=fun h=>wrong_end s op (i:=J3) (by omega) h
 have P2:=peek_l s op g2
 have P3:=peek_l s op g3
 rw [←hb2] at P2
 rw [←hb3] at P3
 rw [h4,h3,h2,h1] at g4
 rw [h2,h1] at P2 W2
 rw [h3,h2,h1] at P3 W3
 have r2:=hexv_le b2
 have r3:=hexv_le b3
 obtain ⟨v2,hv2⟩:∃v,v=Rx.hexv b2:=⟨_,rfl⟩
 obtain ⟨v3,hv3⟩:∃v,v=Rx.hexv b3:=⟨_,rfl⟩
 rw [←hv2] at e2 sp r2
 rw [←hv3] at e3 sp r3
 by_cases p2:b2=-1
 · rw [if_pos p2] at sp
   have W2:=W2 (by rw [←h1,←h2];have:=hpe2.1 p2;omega)
   rw [←hl,←hZ] at W2
   cbv
   repeat' (first | (refine r_true hE rfl ?_;cbv) | (refine r_false hE rfl ?_;cbv) | (refine use_meth hE P1 rfl rfl rfl rfl rfl ?_;cbv) | (refine use_rounds hE lay_ok 3 ?_;cbv) | (refine c_lssT hE k1 rfl ?_;cbv) | (refine c_lssF hE k2 rfl ?_;cbv) | (refine use_meth hE P2 rfl rfl rfl rfl rfl ?_;cbv) | (refine use_methP hE W2 rfl rfl rfl rfl rfl ?_;cbv) | (refine c_eql hE (fun h=>?_) (fun h=>?_)<;>first | (exfalso;omega) | cbv) | (refine c_neq hE (fun h=>?_) (fun h=>?_)<;>first | (exfalso;omega) | cbv) | (refine c_lss hE (fun h=>?_) (fun h=>?_)<;>first | (exfalso;omega) | cbv) | (refine c_leq hE (fun h=>?_) (fun h=>?_)<;>first | (exfalso;omega) | cbv) | (refine c_gtr hE (fun h=>?_) (fun h=>?_)<;>first | (exfalso;omega) | cbv) | (refine c_geq hE (fun h=>?_) (fun h=>?_)<;>first | (exfalso;omega) | cbv) | (refine c_seql hE (fun h=>?_) (fun h=>?_)<;>first | (exfalso;omega) | cbv) | (refine c_sneq hE (fun h=>?_) (fun h=>?_)<;>first | (exfalso;omega) | cbv) | (refine r_sin hE ?_ ?_ ?_;rotate_left 2;cbv) | (refine r_ssin hE ?_ ?_ ?_ ?_;rotate_left 3;cbv) | (refine use_draw hE lay_ok (by kernel_rfl) (by kernel_rfl) ?_;cbv) | (refine c_b hE (fun h=>?_) (fun h=>?_)<;>cbv))
   exact hP _ _ _ rfl rfl (by rw [sp];exact pan_eq hZ)
 rw [if_neg p2] at sp
 by_cases p3:v2<0
 · rw [if_pos p3] at sp
   cbv
   repeat' (first | (refine r_true hE rfl ?_;cbv) | (refine r_false hE rfl ?_;cbv) | (refine use_meth hE P1 rfl rfl rfl rfl rfl ?_;cbv) | (refine use_rounds hE lay_ok 3 ?_;cbv) | (refine c_lssT hE k1 rfl ?_;cbv) | (refine c_lssF hE k2 rfl ?_;cbv) | (refine use_meth hE P2 rfl rfl rfl rfl rfl ?_;cbv) | (refine use_s hE e2 rfl rfl fun x2 hx2=>?_;cbv) | (refine use_thr hE (fail_t _ _) rfl rfl ?_;cbv) | (refine c_eql hE (fun h=>?_) (fun h=>?_)<;>first | (exfalso;omega) | cbv) | (refine c_neq hE (fun h=>?_) (fun h=>?_)<;>first | (exfalso;omega) | cbv) | (refine c_lss hE (fun h=>?_) (fun h=>?_)<;>first | (exfalso;omega) | cbv) | (refine c_leq hE (fun h=>?_) (fun h=>?_)<;>first | (exfalso;omega) | cbv) | (refine c_gtr hE (fun h=>?_) (fun h=>?_)<;>first | (exfalso;omega) | cbv) | (refine c_geq hE (fun h=>?_) (fun h=>?_)<;>first | (exfalso;omega) | cbv) | (refine c_seql hE (fun h=>?_) (fun h=>?_)<;>first | (exfalso;omega) | cbv) | (refine c_sneq hE (fun h=>?_) (fun h=>?_)<;>first | (exfalso;omega) | cbv) | (refine r_sin hE ?_ ?_ ?_;rotate_left 2;cbv) | (refine r_ssin hE ?_ ?_ ?_ ?_;rotate_left 3;cbv) | (refine use_draw hE lay_ok (by kernel_rfl) (by kernel_rfl) ?_;cbv) | (refine c_b hE (fun h=>?_) (fun h=>?_)<;>cbv))
   exact hP _ _ _ rfl rfl (by rw [sp];exact pan_eq hI)
 rw [if_neg p3] at sp
 by_cases p4:b3=-1
 · rw [if_pos p4] at sp
   have W3:=W3 (by rw [←h1,←h2,←h3];have:=hpe3.1 p4;omega)
   rw [←hl,←hZ] at W3
   cbv
   repeat' (first | (refine r_true hE rfl ?_;cbv) | (refine r_false hE rfl ?_;cbv) | (refine use_meth hE P1 rfl rfl rfl rfl rfl ?_;cbv) | (refine use_rounds hE lay_ok 3 ?_;cbv) | (refine c_lssT hE k1 rfl ?_;cbv) | (refine c_lssF hE k2 rfl ?_;cbv) | (refine use_meth hE P2 rfl rfl rfl rfl rfl ?_;cbv) | (refine use_s hE e2 rfl rfl fun x2 hx2=>?_;cbv) | (refine use_meth hE P3 rfl rfl rfl rfl rfl ?_;cbv) | (refine use_methP hE W3 rfl rfl rfl rfl rfl ?_;cbv) | (refine c_eql hE (fun h=>?_) (fun h=>?_)<;>first | (exfalso;omega) | cbv) | (refine c_neq hE (fun h=>?_) (fun h=>?_)<;>first | (exfalso;omega) | cbv) | (refine c_lss hE (fun h=>?_) (fun h=>?_)<;>first | (exfalso;omega) | cbv) | (refine c_leq hE (fun h=>?_) (fun h=>?_)<;>first | (exfalso;omega) | cbv) | (refine c_gtr hE (fun h=>?_) (fun h=>?_)<;>first | (exfalso;omega) | cbv) | (refine c_geq hE (fun h=>?_) (fun h=>?_)<;>first | (exfalso;omega) | cbv) | (refine c_seql hE (fun h=>?_) (fun h=>?_)<;>first | (exfalso;omega) | cbv) | (refine c_sneq hE (fun h=>?_) (fun h=>?_)<;>first | (exfalso;omega) | cbv) | (refine r_sin hE ?_ ?_ ?_;rotate_left 2;cbv) | (refine r_ssin hE ?_ ?_ ?_ ?_;rotate_left 3;cbv) | (refine use_draw hE lay_ok (by kernel_rfl) (by kernel_rfl) ?_;cbv) | (refine c_b hE (fun h=>?_) (fun h=>?_)<;>cbv))
   exact hP _ _ _ rfl rfl (by rw [sp];exact pan_eq hZ)
 rw [if_neg p4] at sp
 by_cases p5:v3<0
 · rw [if_pos p5] at sp
   cbv
   repeat' (first | (refine r_true hE rfl ?_;cbv) | (refine r_false hE rfl ?_;cbv) | (refine use_meth hE P1 rfl rfl rfl rfl rfl ?_;cbv) | (refine use_rounds hE lay_ok 3 ?_;cbv) | (refine c_lssT hE k1 rfl ?_;cbv) | (refine c_lssF hE k2 rfl ?_;cbv) | (refine use_meth hE P2 rfl rfl rfl rfl rfl ?_;cbv) | (refine use_s hE e2 rfl rfl fun x2 hx2=>?_;cbv) | (refine use_meth hE P3 rfl rfl rfl rfl rfl ?_;cbv) | (refine use_s hE e3 rfl rfl fun x3 hx3=>?_;cbv) | (refine use_thr hE (fail_t _ _) rfl rfl ?_;cbv) | (refine c_eql hE (fun h=>?_) (fun h=>?_)<;>first | (exfalso;omega) | cbv) | (refine c_neq hE (fun h=>?_) (fun h=>?_)<;>first | (exfalso;omega) | cbv) | (refine c_lss hE (fun h=>?_) (fun h=>?_)<;>first | (exfalso;omega) | cbv) | (refine c_leq hE (fun h=>?_) (fun h=>?_)<;>first | (exfalso;omega) | cbv) | (refine c_gtr hE (fun h=>?_) (fun h=>?_)<;>first | (exfalso;omega) | cbv) | (refine c_geq hE (fun h=>?_) (fun h=>?_)<;>first | (exfalso;omega) | cbv) | (refine c_seql hE (fun h=>?_) (fun h=>?_)<;>first | (exfalso;omega) | cbv) | (refine c_sneq hE (fun h=>?_) (fun h=>?_)<;>first | (exfalso;omega) | cbv) | (refine r_sin hE ?_ ?_ ?_;rotate_left 2;cbv) | (refine r_ssin hE ?_ ?_ ?_ ?_;rotate_left 3;cbv) | (refine use_draw hE lay_ok (by kernel_rfl) (by kernel_rfl) ?_;cbv) | (refine c_b hE (fun h=>?_) (fun h=>?_)<;>cbv))
   exact hP _ _ _ rfl rfl (by rw [sp];exact pan_eq hI)
 rw [if_neg p5] at sp
 obtain ⟨N,hN⟩:∃N,N=16*v2+v3:=⟨_,rfl⟩
 rw [←hN] at sp
 have hof:=fun {y:Int} (e:y=N)=>f_of (x:=E.conv .u8 y) (y:=E.conv .u8 y) (lo:=N.toNat) (hi:=N.toNat) (by rw [e];exact conv_byte hE (by omega) (by omega)) (by rw [e];exact conv_byte hE (by omega) (by omega)) (by omega) (by omega)
 have hofE:∀x2 x3,x2=v2→x3=v3→E.ar .add .i64 (E.ar .mul .i64 16 (E.ar .add .i64 (E.ar .mul .i64 16 0) x2)) x3=N:=fun x2 x3 h2 h3=>by
  subst h2 h3
  rw [k0,e_add hE (x:=0) (by omega) (by omega),e_mul hE (by omega) (by omega),e_add hE (by omega) (by omega)];omega
 cbv
 repeat' (first | (refine r_true hE rfl ?_;cbv) | (refine r_false hE rfl ?_;cbv) | (refine use_meth hE P1 rfl rfl rfl rfl rfl ?_;cbv) | (refine use_rounds hE lay_ok 3 ?_;cbv) | (refine c_lssT hE k1 rfl ?_;cbv) | (refine c_lssF hE k2 rfl ?_;cbv) | (refine use_meth hE P2 rfl rfl rfl rfl rfl ?_;cbv) | (refine use_s hE e2 rfl rfl fun x2 hx2=>?_;cbv) | (refine use_meth hE P3 rfl rfl rfl rfl rfl ?_;cbv) | (refine use_s hE e3 rfl rfl fun x3 hx3=>?_;cbv) | (refine use_s hE (hof (hofE _ _ hx2 hx3)) rfl rfl fun x hx=>?_;cbv) | (refine c_eql hE (fun h=>?_) (fun h=>?_)<;>first | (exfalso;omega) | cbv) | (refine c_neq hE (fun h=>?_) (fun h=>?_)<;>first | (exfalso;omega) | cbv) | (refine c_lss hE (fun h=>?_) (fun h=>?_)<;>first | (exfalso;omega) | cbv) | (refine c_leq hE (fun h=>?_) (fun h=>?_)<;>first | (exfalso;omega) | cbv) | (refine c_gtr hE (fun h=>?_) (fun h=>?_)<;>first | (exfalso;omega) | cbv) | (refine c_geq hE (fun h=>?_) (fun h=>?_)<;>first | (exfalso;omega) | cbv) | (refine c_seql hE (fun h=>?_) (fun h=>?_)<;>first | (exfalso;omega) | cbv) | (refine c_sneq hE (fun h=>?_) (fun h=>?_)<;>first | (exfalso;omega) | cbv) | (refine r_sin hE ?_ ?_ ?_;rotate_left 2;cbv) | (refine r_ssin hE ?_ ?_ ?_ ?_;rotate_left 3;cbv) | (refine use_draw hE lay_ok (by kernel_rfl) (by kernel_rfl) ?_;cbv) | (refine c_b hE (fun h=>?_) (fun h=>?_)<;>cbv))
 exact And.left (hQ _ _ _ _ _ rfl rfl rfl rfl (by rw [sp];exact ret_eq (by rw [hx];rfl) g4))
theorem escape_c (s:ByteArray) {I:Int} {i:Nat} (op:Int) (hI:I=i) (hi:i<s.size) (hs:s.size≤1000):Meth Tryz.prog 184 163 (rd s I op) [] (rdOut s op shSB (Rx.esc s.data.toList i)):=by
 have hl:s.data.toList.length=s.size:=by simp
 have hbd:=pkb s.data.toList (i+1)
 have hpe:=pk_end (l:=s.data.toList) (i:=i+1)
 by_cases q4:Rx.pk s.data.toList (i+1)=120
 · exact escape_x s op hI hi hs q4
 obtain ⟨b,hb⟩:∃b,b=Rx.pk s.data.toList (i+1):=⟨_,rfl⟩
 rw [←hb] at q4
 have sp:Rx.esc s.data.toList i=Rx.esc s.data.toList i:=rfl
 conv at sp=>rhs;unfold Rx.esc
 rw [←hb] at hbd hpe sp
 refine methO_of lay_ok (Tryz.call184) (Tryz.func184) rfl ?_;intro A E Q hE hf hQ hP
 obtain ⟨J1,h1⟩:∃J,J=E.ar .add .i64 I 1:=⟨_,rfl⟩
 have g1:J1=((i+1:Nat):Int):=(h1.trans (e_add hE (by omega) (by omega))).trans (by omega)
 obtain ⟨J2,h2⟩:∃J,J=E.ar .add .i64 J1 1:=⟨_,rfl⟩
 have g2:J2=((i+2:Nat):Int):=(h2.trans (e_add hE (by omega) (by omega))).trans (by omega)
 have P1:=peek_l s op g1
 have W1:=fun h=>wrong_end s op (i:=J1) (by omega) h
 rw [←hb] at P1
 obtain ⟨Z,hZ⟩:∃Z:Int,Z=((s.data.toList.length:Nat):Int):=⟨_,rfl⟩
 by_cases q1:b=-1
 · rw [if_pos q1] at sp
   have W1:=W1 (by have:=hpe.1 q1;omega)
   rw [h1] at P1 W1
   rw [←hl,←hZ] at W1
   cbv
   repeat' (first | (refine r_true hE rfl ?_;cbv) | (refine r_false hE rfl ?_;cbv) | (refine use_meth hE P1 rfl rfl rfl rfl rfl ?_;cbv) | (refine use_methP hE W1 rfl rfl rfl rfl rfl ?_;cbv) | (refine c_eql hE (fun h=>?_) (fun h=>?_)<;>first | (exfalso;omega) | cbv) | (refine c_neq hE (fun h=>?_) (fun h=>?_)<;>first | (exfalso;omega) | cbv) | (refine c_lss hE (fun h=>?_) (fun h=>?_)<;>first | (exfalso;omega) | cbv) | (refine c_leq hE (fun h=>?_) (fun h=>?_)<;>first | (exfalso;omega) | cbv) | (refine c_gtr hE (fun h=>?_) (fun h=>?_)<;>first | (exfalso;omega) | cbv) | (refine c_geq hE (fun h=>?_) (fun h=>?_)<;>first | (exfalso;omega) | cbv) | (refine c_seql hE (fun h=>?_) (fun h=>?_)<;>first | (exfalso;omega) | cbv) | (refine c_sneq hE (fun h=>?_) (fun h=>?_)<;>first | (exfalso;omega) | cbv) | (refine r_sin hE ?_ ?_ ?_;rotate_left 2;cbv) | (refine r_ssin hE ?_ ?_ ?_ ?_;rotate_left 3;cbv) | (refine use_draw hE lay_ok (by kernel_rfl) (by kernel_rfl) ?_;cbv) | (refine c_b hE (fun h=>?_) (fun h=>?_)<;>cbv))
   exact hP _ _ _ rfl rfl (by rw [sp];exact pan_eq hZ)
 rw [if_neg q1] at sp
 have hi1:i+1<s.data.toList.length:=by
  rcases Nat.lt_or_ge (i+1) s.data.toList.length with g | g
  · exact g
  · exact absurd (hpe.2 g) q1
 by_cases q2:b=100
 · rw [if_pos q2] at sp
   rw [h1] at P1
   cbv
   repeat' (first | (refine r_true hE rfl ?_;cbv) | (refine r_false hE rfl ?_;cbv) | (refine use_meth hE P1 rfl rfl rfl rfl rfl ?_;cbv) | (refine use_s hE digits_f rfl rfl fun x hx=>?_;cbv) | (refine c_eql hE (fun h=>?_) (fun h=>?_)<;>first | (exfalso;omega) | cbv) | (refine c_neq hE (fun h=>?_) (fun h=>?_)<;>first | (exfalso;omega) | cbv) | (refine c_lss hE (fun h=>?_) (fun h=>?_)<;>first | (exfalso;omega) | cbv) | (refine c_leq hE (fun h=>?_) (fun h=>?_)<;>first | (exfalso;omega) | cbv) | (refine c_gtr hE (fun h=>?_) (fun h=>?_)<;>first | (exfalso;omega) | cbv) | (refine c_geq hE (fun h=>?_) (fun h=>?_)<;>first | (exfalso;omega) | cbv) | (refine c_seql hE (fun h=>?_) (fun h=>?_)<;>first | (exfalso;omega) | cbv) | (refine c_sneq hE (fun h=>?_) (fun h=>?_)<;>first | (exfalso;omega) | cbv) | (refine r_sin hE ?_ ?_ ?_;rotate_left 2;cbv) | (refine r_ssin hE ?_ ?_ ?_ ?_;rotate_left 3;cbv) | (refine use_draw hE lay_ok (by kernel_rfl) (by kernel_rfl) ?_;cbv) | (refine c_b hE (fun h=>?_) (fun h=>?_)<;>cbv))
   exact And.left (hQ _ _ _ _ _ rfl rfl rfl rfl (by rw [sp];exact ret_eq (by rw [hx];rfl) (by rw [h2,h1] at g2;exact g2)))
 rw [if_neg q2] at sp
 by_cases q3:b=119
 · rw [if_pos q3] at sp
   rw [h1] at P1
   cbv
   repeat' (first | (refine r_true hE rfl ?_;cbv) | (refine r_false hE rfl ?_;cbv) | (refine use_meth hE P1 rfl rfl rfl rfl rfl ?_;cbv) | (refine use_s hE words_f rfl rfl fun x hx=>?_;cbv) | (refine c_eql hE (fun h=>?_) (fun h=>?_)<;>first | (exfalso;omega) | cbv) | (refine c_neq hE (fun h=>?_) (fun h=>?_)<;>first | (exfalso;omega) | cbv) | (refine c_lss hE (fun h=>?_) (fun h=>?_)<;>first | (exfalso;omega) | cbv) | (refine c_leq hE (fun h=>?_) (fun h=>?_)<;>first | (exfalso;omega) | cbv) | (refine c_gtr hE (fun h=>?_) (fun h=>?_)<;>first | (exfalso;omega) | cbv) | (refine c_geq hE (fun h=>?_) (fun h=>?_)<;>first | (exfalso;omega) | cbv) | (refine c_seql hE (fun h=>?_) (fun h=>?_)<;>first | (exfalso;omega) | cbv) | (refine c_sneq hE (fun h=>?_) (fun h=>?_)<;>first | (exfalso;omega) | cbv) | (refine r_sin hE ?_ ?_ ?_;rotate_left 2;cbv) | (refine r_ssin hE ?_ ?_ ?_ ?_;rotate_left 3;cbv) | (refine use_draw hE lay_ok (by kernel_rfl) (by kernel_rfl) ?_;cbv) | (refine c_b hE (fun h=>?_) (fun h=>?_)<;>cbv))
   exact And.left (hQ _ _ _ _ _ rfl rfl rfl rfl (by rw [sp];exact ret_eq (by rw [hx];rfl) (by rw [h2,h1] at g2;exact g2)))
 rw [if_neg q3] at sp
 rw [if_neg q4] at sp
 have hb0:0≤b:=by omega
 have hcb:=conv_byte hE hb0 hbd.2
 have hof:=f_of (x:=E.conv .u8 b) (y:=E.conv .u8 b) (lo:=b.toNat) (hi:=b.toNat) hcb hcb (by omega) (by omega)
 rw [h1] at P1
 rw [h2,h1] at g2
 have pl:=plain_iff (b:=b)
 cbv
 repeat' (first | (refine r_true hE rfl ?_;cbv) | (refine r_false hE rfl ?_;cbv) | (refine use_meth hE P1 rfl rfl rfl rfl rfl ?_;cbv) | (refine use_s hE hof rfl rfl fun x hx=>?_;cbv) | (refine use_thr hE (fail_t _ _) rfl rfl ?_;cbv) | (refine c_eql hE (fun h=>?_) (fun h=>?_)<;>first | (exfalso;omega) | cbv) | (refine c_neq hE (fun h=>?_) (fun h=>?_)<;>first | (exfalso;omega) | cbv) | (refine c_lss hE (fun h=>?_) (fun h=>?_)<;>first | (exfalso;omega) | cbv) | (refine c_leq hE (fun h=>?_) (fun h=>?_)<;>first | (exfalso;omega) | cbv) | (refine c_gtr hE (fun h=>?_) (fun h=>?_)<;>first | (exfalso;omega) | cbv) | (refine c_geq hE (fun h=>?_) (fun h=>?_)<;>first | (exfalso;omega) | cbv) | (refine c_seql hE (fun h=>?_) (fun h=>?_)<;>first | (exfalso;omega) | cbv) | (refine c_sneq hE (fun h=>?_) (fun h=>?_)<;>first | (exfalso;omega) | cbv) | (refine r_sin hE ?_ ?_ ?_;rotate_left 2;cbv) | (refine r_ssin hE ?_ ?_ ?_ ?_;rotate_left 3;cbv) | (refine use_draw hE lay_ok (by kernel_rfl) (by kernel_rfl) ?_;cbv) | (refine c_b hE (fun h=>?_) (fun h=>?_)<;>cbv))
 all_goals first | exact hP _ _ _ rfl rfl (by rw [sp,if_neg (fun h=>by have:=pl.1 h;omega)];exact pan_eq hI) | exact And.left (hQ _ _ _ _ _ rfl rfl rfl rfl (by rw [sp,if_pos (pl.2 (by omega))];exact ret_eq (by rw [hx];rfl) g2))
end Rd
end Go.Proofs.YtpplemjjeefpdaaGreatDoor
namespace Go.Proofs.YtpplemjjeefpdaaGreatDoor
open Go Go.RowKit
open Ab
namespace Rd
theorem use_ms {P:Program} {A:Run} {E:Env} (hE:dom P A=E) {α:Type} {f:FuncId} {ty:TypeId} {id:Nat} {cells0 cells args args':List V} {s:St} {sh:α→V} {a:α} {cells':List V} {K:V→St→Prop} (hM:Meth P f ty cells args' (.ret (sh a) cells')) (hrow:s.heap.getD id none=some (.box ty cells0)) (hcs:nrm.nrmL cells0=cells) (he:nrm.nrmL args=args') (hcc:cells0.all V.closedB=true) (hca:args.all V.closedB=true)
 (hK:∀x,x=a→K (sh x) (s.setRow id (.box ty cells'))):E.call f (.ptr id 0::args) s K:=use_meth hE hM hrow hcs he hcc hca (hK a rfl)
theorem use_rd {P:Program} {A:Run} {E:Env} (hE:dom P A=E) {α:Type} {f:FuncId} {ty:TypeId} {id:Nat} {cells0 cells args args':List V} {s:St} {t:ByteArray} {op:Int} {sh:α→V} {r:Res α} {K:V→St→Prop} (hM:Meth P f ty cells args' (rdOut t op sh r)) (hrow:s.heap.getD id none=some (.box ty cells0)) (hcs:nrm.nrmL cells0=cells) (he:nrm.nrmL args=args') (hcc:cells0.all V.closedB=true) (hca:args.all V.closedB=true) (ho:r≠.out)
 (h1:∀a p J,r=.ok a p→J=((p:Nat):Int)→K (sh a) (s.setRow id (.box ty [fS t,fI .i64 J,fI .i64 op]))) (h2:∀e p X,r=.bad e p→X=((p:Nat):Int)→E.pan (faultV e X) (s.setRow id (.box ty (List.replicate cells0.length .junk)))):E.call f (.ptr id 0::args) s K:=by
 cases r with
 | ok a p=>exact use_meth hE hM hrow hcs he hcc hca (h1 a p _ rfl rfl)
 | bad e p=>exact use_methP hE hM hrow hcs he hcc hca (h2 e p _ rfl rfl)
 | out=>exact absurd rfl ho
theorem use_bad {P:Program} {A:Run} {E:Env} (hE:dom P A=E) {α:Type} {f:FuncId} {ty:TypeId} {id:Nat} {cells0 cells args args':List V} {s:St} {t:ByteArray} {op:Int} {sh:α→V} {r:Res α} {K:V→St→Prop} (hM:Meth P f ty cells args' (rdOut t op sh r)) (hrow:s.heap.getD id none=some (.box ty cells0)) (hcs:nrm.nrmL cells0=cells) (he:nrm.nrmL args=args') (hcc:cells0.all V.closedB=true) (hca:args.all V.closedB=true) (ho:∃e p,r=.bad e p)
 (h2:∀e p X,r=.bad e p→X=((p:Nat):Int)→E.pan (faultV e X) (s.setRow id (.box ty (List.replicate cells0.length .junk)))):E.call f (.ptr id 0::args) s K:=by
 obtain ⟨e,p,rfl⟩:=ho
 exact use_methP hE hM hrow hcs he hcc hca (h2 e p _ rfl rfl)
theorem c_bT {P:Program} {A:Run} {E:Env} (hE:dom P A=E) {b:Bool} {p q:Unit→Prop} (h:b=true) (k:p ()):E.ifb b p q:=c_b hE (fun _=>k) (fun h'=>by subst h;cases h')
theorem c_bF {P:Program} {A:Run} {E:Env} (hE:dom P A=E) {b:Bool} {p q:Unit→Prop} (h:b=false) (k:q ()):E.ifb b p q:=c_b hE (fun h'=>by subst h;cases h') (fun _=>k)
theorem fine_ne {α:Type} {l:List UInt8} {i:Nat} {r:Res α} (h:Fine l i r):r≠.out:=fun e=>by subst e;exact h.elim
theorem fine0_ne {α:Type} {l:List UInt8} {i:Nat} {r:Res α} (h:Fine0 l i r):r≠.out:=fun e=>by subst e;exact h.elim
theorem fine_le {α:Type} {l:List UInt8} {i p:Nat} {r:Res α} {a:α} (h:Fine l i r) (e:r=.ok a p):i<p∧p≤l.length:=by subst e;exact h
theorem fine0_le {α:Type} {l:List UInt8} {i p:Nat} {r:Res α} {a:α} (h:Fine0 l i r) (e:r=.ok a p):i≤p∧p≤l.length:=by subst e;exact h
theorem other_bad {α:Type} (l:List UInt8) (i:Nat):∃e p,(Rx.other l i:Res α)=.bad e p:=by
 unfold Rx.other;split<;>exact ⟨_,_,rfl⟩
theorem pk_ge {l:List UInt8} {i:Nat} (h:i<l.length):0≤Rx.pk l i:=by
 unfold Rx.pk;rw [List.getElem?_eq_getElem h];simp
theorem wrong_c {α:Type} (s:ByteArray) {I:Int} {i:Nat} (op:Int) (sh:α→V) (hI:I=i):Meth Tryz.prog 139 163 (rd s I op) [] (rdOut s op sh (Rx.other s.data.toList i:Res α)):=by
 have hl:s.data.toList.length=s.size:=by simp
 rcases Nat.lt_or_ge i s.size with h | h
 · have:=wrong_form s op (i:=I) (by omega) (by omega)
   rw [show (Rx.other s.data.toList i:Res α)=.bad 2 i by unfold Rx.other;rw [if_neg (fun e=>by have:=pk_ge (l:=s.data.toList) (i:=i) (by omega);omega)]]
   rw [hI] at this ⊢;exact this
 · have:=wrong_end s op (i:=I) (by omega) (by omega)
   rw [other_end (by omega),←hl] at *;exact this
theorem e_inc {P:Program} {A:Run} {E:Env} (hE:dom P A=E) {J:Int} {p:Nat} (hJ:J=(p:Int)) (h:p≤1000000):E.ar .add .i64 J 1=((p+1:Nat):Int):=(e_add hE (by omega) (by omega)).trans (by omega)
theorem sign_c (s:ByteArray) {I:Int} {i:Nat} (op:Int) (hI:I=i) (hi:i≤s.size) (hs:s.size≤1000):Meth Tryz.prog 194 163 (rd s I op) [] (rdOut s op shSB (Rx.sign s.data.toList i)):=by
 have hl:s.data.toList.length=s.size:=by simp
 have hbd:=pkb s.data.toList i
 have hin:=fun h=>pk_in (l:=s.data.toList) (i:=i) h
 have P1:=peek_l s op hI
 have W1:=wrong_c s op shSB hI
 have E1:=fun h=>escape_c s op hI h hs
 have F1:=fine_ne (fine_esc s.data.toList i)
 have O1:=other_bad (α:=CSet × Bool) s.data.toList i
 have sp:Rx.sign s.data.toList i=Rx.sign s.data.toList i:=rfl
 conv at sp=>rhs;unfold Rx.sign
 obtain ⟨b,hb⟩:∃b,b=Rx.pk s.data.toList i:=⟨_,rfl⟩
 rw [←hb] at hbd hin sp P1
 refine methO_of lay_ok (Tryz.call194) (Tryz.func194) rfl ?_;intro A E Q hE hf hQ hP
 by_cases q1:b=92
 · rw [if_pos q1] at sp
   have E1:=E1 (by have:=hin (by omega);omega)
   generalize Rx.esc s.data.toList i=r at *
   cbv
   repeat' (first | (refine r_true hE rfl ?_;cbv) | (refine r_false hE rfl ?_;cbv) | (refine use_meth hE P1 rfl rfl rfl rfl rfl ?_;cbv) | (refine use_rd hE E1 rfl rfl rfl rfl rfl F1 (fun a p J hr hJ=>?_) (fun e p X hr hX=>?_)<;>cbv) | (refine c_eql hE (fun h=>?_) (fun h=>?_)<;>first | (exfalso;omega) | cbv) | (refine c_neq hE (fun h=>?_) (fun h=>?_)<;>first | (exfalso;omega) | cbv) | (refine c_lss hE (fun h=>?_) (fun h=>?_)<;>first | (exfalso;omega) | cbv) | (refine c_leq hE (fun h=>?_) (fun h=>?_)<;>first | (exfalso;omega) | cbv) | (refine c_gtr hE (fun h=>?_) (fun h=>?_)<;>first | (exfalso;omega) | cbv) | (refine c_geq hE (fun h=>?_) (fun h=>?_)<;>first | (exfalso;omega) | cbv) | (refine c_seql hE (fun h=>?_) (fun h=>?_)<;>first | (exfalso;omega) | cbv) | (refine c_sneq hE (fun h=>?_) (fun h=>?_)<;>first | (exfalso;omega) | cbv) | (refine r_sin hE ?_ ?_ ?_;rotate_left 2;cbv) | (refine r_ssin hE ?_ ?_ ?_ ?_;rotate_left 3;cbv) | (refine use_draw hE lay_ok (by kernel_rfl) (by kernel_rfl) ?_;cbv) | (refine c_b hE (fun h=>?_) (fun h=>?_)<;>cbv))
   · exact And.left (hQ _ _ _ _ _ rfl rfl rfl rfl (by rw [sp,hr];exact ret_eq rfl hJ))
   · exact hP _ _ _ rfl rfl (by rw [sp,hr];exact pan_eq hX)
 rw [if_neg q1] at sp
 by_cases q2:b=-1∨b=91∨b=93∨b=45∨b=94
 · rw [if_pos q2] at sp
   generalize (Rx.other s.data.toList i:Res (CSet × Bool))=r at *
   cbv
   repeat' (first | (refine r_true hE rfl ?_;cbv) | (refine r_false hE rfl ?_;cbv) | (refine use_meth hE P1 rfl rfl rfl rfl rfl ?_;cbv) | (refine use_bad hE W1 rfl rfl rfl rfl rfl O1 (fun e p X hr hX=>?_);cbv) | (refine c_eql hE (fun h=>?_) (fun h=>?_)<;>first | (exfalso;omega) | cbv) | (refine c_neq hE (fun h=>?_) (fun h=>?_)<;>first | (exfalso;omega) | cbv) | (refine c_lss hE (fun h=>?_) (fun h=>?_)<;>first | (exfalso;omega) | cbv) | (refine c_leq hE (fun h=>?_) (fun h=>?_)<;>first | (exfalso;omega) | cbv) | (refine c_gtr hE (fun h=>?_) (fun h=>?_)<;>first | (exfalso;omega) | cbv) | (refine c_geq hE (fun h=>?_) (fun h=>?_)<;>first | (exfalso;omega) | cbv) | (refine c_seql hE (fun h=>?_) (fun h=>?_)<;>first | (exfalso;omega) | cbv) | (refine c_sneq hE (fun h=>?_) (fun h=>?_)<;>first | (exfalso;omega) | cbv) | (refine r_sin hE ?_ ?_ ?_;rotate_left 2;cbv) | (refine r_ssin hE ?_ ?_ ?_ ?_;rotate_left 3;cbv) | (refine use_draw hE lay_ok (by kernel_rfl) (by kernel_rfl) ?_;cbv) | (refine c_b hE (fun h=>?_) (fun h=>?_)<;>cbv))
   all_goals exact hP _ _ _ rfl rfl (by rw [sp,hr];exact pan_eq hX)
 rw [if_neg q2] at sp
 have hcb:=conv_byte hE (b:=b) (by omega) hbd.2
 have hof:=f_of (x:=E.conv .u8 b) (y:=E.conv .u8 b) (lo:=b.toNat) (hi:=b.toNat) hcb hcb (by omega) (by omega)
 have hJ:=e_inc hE hI (by omega)
 cbv
 repeat' (first | (refine r_true hE rfl ?_;cbv) | (refine r_false hE rfl ?_;cbv) | (refine use_meth hE P1 rfl rfl rfl rfl rfl ?_;cbv) | (refine use_s hE hof rfl rfl fun x hx=>?_;cbv) | (refine c_eql hE (fun h=>?_) (fun h=>?_)<;>first | (exfalso;omega) | cbv) | (refine c_neq hE (fun h=>?_) (fun h=>?_)<;>first | (exfalso;omega) | cbv) | (refine c_lss hE (fun h=>?_) (fun h=>?_)<;>first | (exfalso;omega) | cbv) | (refine c_leq hE (fun h=>?_) (fun h=>?_)<;>first | (exfalso;omega) | cbv) | (refine c_gtr hE (fun h=>?_) (fun h=>?_)<;>first | (exfalso;omega) | cbv) | (refine c_geq hE (fun h=>?_) (fun h=>?_)<;>first | (exfalso;omega) | cbv) | (refine c_seql hE (fun h=>?_) (fun h=>?_)<;>first | (exfalso;omega) | cbv) | (refine c_sneq hE (fun h=>?_) (fun h=>?_)<;>first | (exfalso;omega) | cbv) | (refine r_sin hE ?_ ?_ ?_;rotate_left 2;cbv) | (refine r_ssin hE ?_ ?_ ?_ ?_;rotate_left 3;cbv) | (refine use_draw hE lay_ok (by kernel_rfl) (by kernel_rfl) ?_;cbv) | (refine c_b hE (fun h=>?_) (fun h=>?_)<;>cbv))
 exact And.left (hQ _ _ _ _ _ rfl rfl rfl rfl (by rw [sp];exact ret_eq (by rw [hx];rfl) hJ))
theorem first_one {n:Nat} (h:n<256):(CSet.between n n).first=n:=by
 unfold CSet.first
 refine CSet.first_at _ 256 0 n (by omega) (by omega) ?_ (fun j _ hj=>?_)
 · rw [CSet.has_between n n n h h];simp
 · rw [CSet.has_between n n j h (by omega)];simp;omega
theorem esc_single {l:List UInt8} {i p:Nat} {S:CSet} (h:Rx.esc l i=.ok (S,false) p):∃n,n<256∧S=CSet.between n n:=by
 have hb:=pkb l (i+1)
 unfold Rx.esc at h
 split at h
 · cases h
 · split at h
   · cases h
   · split at h
     · cases h
     · split at h
       · split at h
         · cases h
         · split at h
           · cases h
           · split at h
             · cases h
             · split at h
               · cases h
               · obtain ⟨h',rfl⟩:=Res.ok.inj h
                 have h1:=hexv_le (Rx.pk l (i+2))
                 have h2:=hexv_le (Rx.pk l (i+3))
                 refine ⟨_,?_,((Prod.mk.inj h').1).symm⟩
                 omega
       · split at h
         · obtain ⟨h',rfl⟩:=Res.ok.inj h
           refine ⟨_,?_,((Prod.mk.inj h').1).symm⟩
           omega
         · cases h
theorem sign_single {l:List UInt8} {i p:Nat} {S:CSet} (h:Rx.sign l i=.ok (S,false) p):∃n,n<256∧S=CSet.between n n:=by
 have hb:=pkb l i
 unfold Rx.sign at h
 split at h
 · exact esc_single h
 · split at h
   · unfold Rx.other at h;split at h<;>cases h
   · obtain ⟨h',rfl⟩:=Res.ok.inj h
     refine ⟨_,?_,((Prod.mk.inj h').1).symm⟩
     omega
theorem sign_first {l:List UInt8} {i p:Nat} {a:CSet × Bool} (h:Rx.sign l i=.ok a p) (hm:a.2=false):0≤a.1.first∧a.1.first≤255:=by
 obtain ⟨S,m⟩:=a
 have hm:m=false:=hm
 subst hm
 obtain ⟨n,hn,rfl⟩:=sign_single h
 show 0≤(CSet.between n n).first∧(CSet.between n n).first≤255
 rw [first_one hn];omega
theorem item_bad1 {l:List UInt8} {i p:Nat} {e:Int} (h:Rx.sign l i=.bad e p):Rx.item l i=.bad e p:=by unfold Rx.item;rw [h]
theorem item_1 {l:List UInt8} {i p:Nat} {a:CSet × Bool} (h:Rx.sign l i=.ok a p) (hn:a.2=true∨Rx.pk l p≠45):Rx.item l i=.ok a.1 p:=by
 obtain ⟨S,m⟩:=a;unfold Rx.item;rw [h];exact if_pos hn
theorem item_bad2 {l:List UInt8} {i p q:Nat} {a:CSet × Bool} {e:Int} (h:Rx.sign l i=.ok a p) (hn:¬(a.2=true∨Rx.pk l p≠45)) (h2:Rx.sign l (p+1)=.bad e q):Rx.item l i=.bad e q:=by
 obtain ⟨S,m⟩:=a;unfold Rx.item;rw [h];dsimp only;rw [if_neg hn,h2]
theorem item_2 {l:List UInt8} {i p q:Nat} {a c:CSet × Bool} (h:Rx.sign l i=.ok a p) (hn:¬(a.2=true∨Rx.pk l p≠45)) (h2:Rx.sign l (p+1)=.ok c q) (hb:c.2=true∨c.1.first<a.1.first):Rx.item l i=.bad 2 (p+1):=by
 obtain ⟨S,m⟩:=a;obtain ⟨T,k⟩:=c;unfold Rx.item;rw [h];dsimp only;rw [if_neg hn,h2];exact if_pos hb
theorem item_3 {l:List UInt8} {i p q:Nat} {a c:CSet × Bool} (h:Rx.sign l i=.ok a p) (hn:¬(a.2=true∨Rx.pk l p≠45)) (h2:Rx.sign l (p+1)=.ok c q) (hb:¬(c.2=true∨c.1.first<a.1.first)):Rx.item l i=.ok (CSet.between a.1.first.toNat c.1.first.toNat) q:=by
 obtain ⟨S,m⟩:=a;obtain ⟨T,k⟩:=c;unfold Rx.item;rw [h];dsimp only;rw [if_neg hn,h2];exact if_neg hb
theorem item_c (s:ByteArray) {I:Int} {i:Nat} (op:Int) (hI:I=i) (hi:i≤s.size) (hs:s.size≤1000):Meth Tryz.prog 189 163 (rd s I op) [] (rdOut s op setV (Rx.item s.data.toList i)):=by
 have hl:s.data.toList.length=s.size:=by simp
 have F1:=fine_sign s.data.toList i
 have S1:=sign_c s op hI hi hs
 refine methO_of lay_ok (Tryz.call189) (Tryz.func189) rfl ?_;intro A E Q hE hf hQ hP
 cbv
 refine use_rd hE S1 rfl rfl rfl rfl rfl (fine_ne F1) (fun a p J hr hJ=>?_) (fun e p X hr hX=>?_)<;>cbv
 case refine_2=>exact hP _ _ _ rfl rfl (by rw [item_bad1 hr];exact pan_eq hX)
 have hp:=fine_le F1 hr
 refine c_b hE (fun hm=>?_) (fun hm=>?_)<;>cbv
 · repeat' (first | (refine r_true hE rfl ?_;cbv) | (refine r_false hE rfl ?_;cbv) | (refine c_eql hE (fun h=>?_) (fun h=>?_)<;>first | (exfalso;omega) | cbv) | (refine c_neq hE (fun h=>?_) (fun h=>?_)<;>first | (exfalso;omega) | cbv) | (refine c_lss hE (fun h=>?_) (fun h=>?_)<;>first | (exfalso;omega) | cbv) | (refine c_leq hE (fun h=>?_) (fun h=>?_)<;>first | (exfalso;omega) | cbv) | (refine c_gtr hE (fun h=>?_) (fun h=>?_)<;>first | (exfalso;omega) | cbv) | (refine c_geq hE (fun h=>?_) (fun h=>?_)<;>first | (exfalso;omega) | cbv) | (refine c_seql hE (fun h=>?_) (fun h=>?_)<;>first | (exfalso;omega) | cbv) | (refine c_sneq hE (fun h=>?_) (fun h=>?_)<;>first | (exfalso;omega) | cbv) | (refine r_sin hE ?_ ?_ ?_;rotate_left 2;cbv) | (refine r_ssin hE ?_ ?_ ?_ ?_;rotate_left 3;cbv) | (refine use_draw hE lay_ok (by kernel_rfl) (by kernel_rfl) ?_;cbv) | (refine c_b hE (fun h=>?_) (fun h=>?_)<;>cbv))
   exact And.left (hQ _ _ _ _ _ rfl rfl rfl rfl (by rw [item_1 hr (.inl hm)];exact ret_eq rfl hJ))
 have hm:a.2=false:=by simpa using hm
 have hf1:=sign_first hr hm
 have P2:=peek_l s op hJ
 refine use_ms hE (sh:=shI) P2 rfl rfl rfl rfl rfl (fun b hb=>?_)
 cbv
 refine c_neq hE (fun h=>?_) (fun h=>?_)<;>cbv
 · repeat' (first | (refine r_true hE rfl ?_;cbv) | (refine r_false hE rfl ?_;cbv) | (refine c_eql hE (fun h=>?_) (fun h=>?_)<;>first | (exfalso;omega) | cbv) | (refine c_neq hE (fun h=>?_) (fun h=>?_)<;>first | (exfalso;omega) | cbv) | (refine c_lss hE (fun h=>?_) (fun h=>?_)<;>first | (exfalso;omega) | cbv) | (refine c_leq hE (fun h=>?_) (fun h=>?_)<;>first | (exfalso;omega) | cbv) | (refine c_gtr hE (fun h=>?_) (fun h=>?_)<;>first | (exfalso;omega) | cbv) | (refine c_geq hE (fun h=>?_) (fun h=>?_)<;>first | (exfalso;omega) | cbv) | (refine c_seql hE (fun h=>?_) (fun h=>?_)<;>first | (exfalso;omega) | cbv) | (refine c_sneq hE (fun h=>?_) (fun h=>?_)<;>first | (exfalso;omega) | cbv) | (refine r_sin hE ?_ ?_ ?_;rotate_left 2;cbv) | (refine r_ssin hE ?_ ?_ ?_ ?_;rotate_left 3;cbv) | (refine use_draw hE lay_ok (by kernel_rfl) (by kernel_rfl) ?_;cbv) | (refine c_b hE (fun h=>?_) (fun h=>?_)<;>cbv))
   exact And.left (hQ _ _ _ _ _ rfl rfl rfl rfl (by rw [item_1 hr (.inr (by rw [←hb];exact h))];exact ret_eq rfl hJ))
 have hn:¬(a.2=true∨Rx.pk s.data.toList p≠45):=fun e=>e.elim (fun e=>by rw [hm] at e;cases e) (fun e=>e (by rw [←hb];exact h))
 have hpin:p<s.data.toList.length:=pk_in (by rw [←hb];omega)
 have F2:=fine_sign s.data.toList (p+1)
 have g1:=e_inc hE hJ (by omega)
 have S2:=sign_c s op g1 (by omega) hs
 repeat' (first | (refine r_true hE rfl ?_;cbv) | (refine r_false hE rfl ?_;cbv) | (refine c_eql hE (fun h=>?_) (fun h=>?_)<;>first | (exfalso;omega) | cbv) | (refine c_neq hE (fun h=>?_) (fun h=>?_)<;>first | (exfalso;omega) | cbv) | (refine c_lss hE (fun h=>?_) (fun h=>?_)<;>first | (exfalso;omega) | cbv) | (refine c_leq hE (fun h=>?_) (fun h=>?_)<;>first | (exfalso;omega) | cbv) | (refine c_gtr hE (fun h=>?_) (fun h=>?_)<;>first | (exfalso;omega) | cbv) | (refine c_geq hE (fun h=>?_) (fun h=>?_)<;>first | (exfalso;omega) | cbv) | (refine c_seql hE (fun h=>?_) (fun h=>?_)<;>first | (exfalso;omega) | cbv) | (refine c_sneq hE (fun h=>?_) (fun h=>?_)<;>first | (exfalso;omega) | cbv) | (refine r_sin hE ?_ ?_ ?_;rotate_left 2;cbv) | (refine r_ssin hE ?_ ?_ ?_ ?_;rotate_left 3;cbv) | (refine use_draw hE lay_ok (by kernel_rfl) (by kernel_rfl) ?_;cbv) | (refine c_b hE (fun h=>?_) (fun h=>?_)<;>cbv))
 refine use_rd hE S2 rfl rfl rfl rfl rfl (fine_ne F2) (fun c q K hr2 hK=>?_) (fun e q X hr2 hX=>?_)<;>cbv
 case refine_2=>exact hP _ _ _ rfl rfl (by rw [item_bad2 hr hn hr2];exact pan_eq hX)
 refine use_draw hE lay_ok (by kernel_rfl) (by kernel_rfl) ?_
 cbv
 refine c_b hE (fun hm2=>?_) (fun hm2=>?_)<;>cbv
 · repeat' (first | (refine r_true hE rfl ?_;cbv) | (refine r_false hE rfl ?_;cbv) | (refine c_bT hE hm2 ?_;cbv) | (refine use_thr hE (fail_t _ _) rfl rfl ?_;cbv) | (refine c_eql hE (fun h=>?_) (fun h=>?_)<;>first | (exfalso;omega) | cbv) | (refine c_neq hE (fun h=>?_) (fun h=>?_)<;>first | (exfalso;omega) | cbv) | (refine c_lss hE (fun h=>?_) (fun h=>?_)<;>first | (exfalso;omega) | cbv) | (refine c_leq hE (fun h=>?_) (fun h=>?_)<;>first | (exfalso;omega) | cbv) | (refine c_gtr hE (fun h=>?_) (fun h=>?_)<;>first | (exfalso;omega) | cbv) | (refine c_geq hE (fun h=>?_) (fun h=>?_)<;>first | (exfalso;omega) | cbv) | (refine c_seql hE (fun h=>?_) (fun h=>?_)<;>first | (exfalso;omega) | cbv) | (refine c_sneq hE (fun h=>?_) (fun h=>?_)<;>first | (exfalso;omega) | cbv) | (refine r_sin hE ?_ ?_ ?_;rotate_left 2;cbv) | (refine r_ssin hE ?_ ?_ ?_ ?_;rotate_left 3;cbv) | (refine use_draw hE lay_ok (by kernel_rfl) (by kernel_rfl) ?_;cbv) | (refine c_b hE (fun h=>?_) (fun h=>?_)<;>cbv))
   exact hP _ _ _ rfl rfl (by rw [item_2 hr hn hr2 (.inl hm2)];exact pan_eq g1)
 have hm2:c.2=false:=by simpa using hm2
 have hf2:=sign_first hr2 hm2
 have cvb:∀x y,x=y→0≤y∧y≤255→E.conv .u8 x=(y.toNat:Int):=fun x y e h=>by rw [e];exact conv_byte hE h.1 h.2
 have b1:a.1.first.toNat<256:=by omega
 have b2:c.1.first.toNat<256:=by omega
 repeat' (first | (refine r_true hE rfl ?_;cbv) | (refine r_false hE rfl ?_;cbv) | (refine c_bF hE hm2 ?_;cbv) | (refine use_ps hE (f_first (S:=c.1)) rfl rfl fun x2 hx2=>?_;cbv) | (refine use_ps hE (f_first (S:=a.1)) rfl rfl fun x1 hx1=>?_;cbv) | (refine use_thr hE (fail_t _ _) rfl rfl ?_;cbv) | (refine use_ps hE (f_of (cvb _ _ hx1 hf1) (cvb _ _ hx2 hf2) b1 b2) rfl rfl fun x hx=>?_;cbv) | (refine use_s hE (f_of (cvb _ _ hx1 hf1) (cvb _ _ hx2 hf2) b1 b2) rfl rfl fun x hx=>?_;cbv) | (refine c_eql hE (fun h=>?_) (fun h=>?_)<;>first | (exfalso;omega) | cbv) | (refine c_neq hE (fun h=>?_) (fun h=>?_)<;>first | (exfalso;omega) | cbv) | (refine c_lss hE (fun h=>?_) (fun h=>?_)<;>first | (exfalso;omega) | cbv) | (refine c_leq hE (fun h=>?_) (fun h=>?_)<;>first | (exfalso;omega) | cbv) | (refine c_gtr hE (fun h=>?_) (fun h=>?_)<;>first | (exfalso;omega) | cbv) | (refine c_geq hE (fun h=>?_) (fun h=>?_)<;>first | (exfalso;omega) | cbv) | (refine c_seql hE (fun h=>?_) (fun h=>?_)<;>first | (exfalso;omega) | cbv) | (refine c_sneq hE (fun h=>?_) (fun h=>?_)<;>first | (exfalso;omega) | cbv) | (refine r_sin hE ?_ ?_ ?_;rotate_left 2;cbv) | (refine r_ssin hE ?_ ?_ ?_ ?_;rotate_left 3;cbv) | (refine use_draw hE lay_ok (by kernel_rfl) (by kernel_rfl) ?_;cbv) | (refine c_b hE (fun h=>?_) (fun h=>?_)<;>cbv))
 · exact hP _ _ _ rfl rfl (by rw [item_2 hr hn hr2 (.inr (by omega))];exact pan_eq g1)
 · exact And.left (hQ _ _ _ _ _ rfl rfl rfl rfl (by rw [item_3 hr hn hr2 (fun e=>by rw [hm2] at e;rcases e with e | e<;>first | cases e | omega)];exact ret_eq (by rw [hx];rfl) hK))
end Rd
end Go.Proofs.YtpplemjjeefpdaaGreatDoor
