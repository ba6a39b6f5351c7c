/- Texts that the proof leans on. -/
import Derived.Test.YtagppjldegblhaaGreatDoorK225
import Derived.Test.YtagppjldegblhaaGreatDoorK230
set_option linter.unusedVariables false
set_option linter.unusedSimpArgs false
set_option maxRecDepth 100000
set_option maxHeartbeats 4000000
namespace Go.Proofs.YtagppjldegblhaaGreatDoor
open Go Go.RowKit
open Ab Sh
namespace Gn
def r27_Great_l1 (p0 : GCaveat) : Nat → Int → Option Bool
| 0, _ => none
| m + 1, v2 =>
 cond (cm .lss v2 (ll (rw _ cS p0.Words)))
 ((at_ p0.Words v2).bind fun r3 =>
 cond (cm .gtr (sl r3) 100)
 (some true)
 ((r27_Great_l1 p0 m) (ar .add .i64 v2 1)))
 (some false)
def slices_Index_S_s (R : RF) (r : Int) : V := fI .i64 r
def slices_Index_S_l1 (p0 : List ByteArray) (p1 : ByteArray) : Nat → Int → Option Int
| 0, _ => none
| m + 1, v1 =>
 cond (cm .lss v1 (ll (rw _ cS p0)))
 ((at_ p0 v1).bind fun r2 =>
 cond (sc .eql p1 r2)
 (some v1)
 ((slices_Index_S_l1 p0 p1 m) (ar .add .i64 v1 1)))
 (some (-1))
def slices_Index_S_g (N : Nat) (p0 : List ByteArray) (p1 : ByteArray) : Option Int :=
 slices_Index_S_l1 p0 p1 N 0
def slices_Contains_S_s (R : RF) (r : Bool) : V := fB r
def slices_Contains_S_g (N : Nat) (p0 : List ByteArray) (p1 : ByteArray) : Option Bool :=
 (slices_Index_S_g N p0 p1).bind fun a1 =>
 some (cm .geq a1 0)
def name_Word_s (R : RF) (r : Bool) : V := fB r
def name_Word_l1 (p0 : ByteArray) : Nat → Int → Option Bool
| 0, _ => none
| m + 1, v1 =>
 nx p0 v1 (fun q2 c3 =>
 (cond (cm .leq 97 c3)
 (some (cm .leq c3 122))
 (some false) : Option Bool).bind fun j6 =>
 (cond (!j6)
 (cond (cm .eql v1 0)
 (some true)
 ((name_digit_g c3).bind fun a4 =>
 cond (!a4)
 (some (cm .neq c3 45))
 (some false)))
 (some false) : Option Bool).bind fun j7 =>
 cond (j7)
 (some false)
 ((name_Word_l1 p0 m) q2))
 (some true)
def name_Word_g (N : Nat) (p0 : ByteArray) : Option Bool :=
 (cond (sc .eql p0 ByteArray.empty)
 (some true)
 (some (cm .gtr (sl p0) 32)) : Option Bool).bind fun j1 =>
 cond (j1)
 (some false)
 (name_Word_l1 p0 N 0)
def caveat_once_s (R : RF) (r : Bool) : V := fB r
def caveat_once_l1 (N : Nat) (p0 : List ByteArray) : Nat → Int → Option Bool
| 0, _ => none
| m + 1, v1 =>
 cond (cm .lss v1 (ll (rw _ cS p0)))
 ((at_ p0 v1).bind fun r2 =>
 ((name_Word_g N r2).bind fun a3 =>
 cond (!a3)
 (some true)
 ((sub cS p0 0 v1).bind fun l4 =>
 (slices_Contains_S_g N l4 r2).bind fun a5 =>
 some a5) : Option Bool).bind fun j3 =>
 cond (j3)
 (some false)
 ((caveat_once_l1 N p0 m) (ar .add .i64 v1 1)))
 ((cond (cm .gtr (ll (rw _ cS p0)) 0)
 (some (cm .leq (ll (rw _ cS p0)) 16))
 (some false) : Option Bool).bind fun j4 =>
 some j4)
def caveat_once_g (N : Nat) (p0 : List ByteArray) : Option Bool :=
 caveat_once_l1 N p0 N 0
def caveat_do_s (R : RF) (r : Int) : V := fI .i64 r
def caveat_do_g (p0 : ByteArray) : Option Int :=
 (at_ T_dos 1).bind fun r1 =>
 cond (sc .eql p0 r1)
 (some 1)
 ((at_ T_dos 2).bind fun r2 =>
 cond (sc .eql p0 r2)
 (some 2)
 (some 0))
def caveat_Right_s (R : RF) (r : Bool) : V := fB r
def caveat_Right_l3 (p0 : GCaveat) : Nat → Int → Option Bool
| 0, _ => none
| m + 1, v4 =>
 cond (cm .lss v4 (ll (rw _ cS p0.Words)))
 ((at_ p0.Words v4).bind fun r5 =>
 (caveat_do_g r5).bind fun a6 =>
 cond (cm .eql a6 0)
 (some (!(cm .geq v4 0)))
 ((caveat_Right_l3 p0 m) (ar .add .i64 v4 1)))
 (some (!(cm .geq (-1) 0)))
def caveat_Right_g (N : Nat) (p0 : GCaveat) : Option Bool :=
 (cond (cm .neq p0.Kind 7)
 (cond (cm .gtr (ll (rw _ cMatcher p0.Sel)) 0)
 (some true)
 (cond (cm .neq p0.Kind 5)
 (cond (cm .neq p0.Kind 6)
 (some (cm .neq p0.Num 0))
 (some false))
 (some false)))
 (cond (cm .neq p0.Kind 5)
 (cond (cm .neq p0.Kind 6)
 (some (cm .neq p0.Num 0))
 (some false))
 (some false)) : Option Bool).bind fun j1 =>
 cond (j1)
 (some false)
 (cond (cm .eql p0.Kind 1)
 (cond (cm .neq (ll (rw _ cS p0.Words)) 1)
 (some false)
 ((caveat_once_g N p0.Words).bind fun a1 =>
 some a1))
 ((cond (cm .eql p0.Kind 2)
 (some (cm .eql p0.Kind 2))
 (some (cm .eql p0.Kind 3)) : Option Bool).bind fun j2 =>
 cond (j2)
 ((caveat_once_g N p0.Words).bind fun a2 =>
 some a2)
 (cond (cm .eql p0.Kind 4)
 (((caveat_once_g N p0.Words).bind fun a3 =>
 cond (a3)
 (caveat_Right_l3 p0 N 0)
 (some false) : Option Bool).bind fun j3 =>
 some j3)
 ((cond (cm .eql p0.Kind 5)
 (some (cm .eql p0.Kind 5))
 (some (cm .eql p0.Kind 6)) : Option Bool).bind fun j4 =>
 cond (j4)
 ((cond (cm .eql (ll (rw _ cS p0.Words)) 0)
 (cond (cm .geq p0.Num 0)
 (some (cm .leq p0.Num 1099511627776))
 (some false))
 (some false) : Option Bool).bind fun j5 =>
 some j5)
 (cond (cm .eql p0.Kind 7)
 (cond (cm .eql (ll (rw _ cS p0.Words)) 0)
 (cond (cm .eql (ll (rw _ cS p0.Words)) 0)
 (cond (cm .eql (ll (rw _ cS p0.Words)) 0)
 ((selector_Right_g N p0.Sel).bind fun a7 =>
 cond (cm .eql (ll (rw _ cS p0.Words)) 0)
 (cond (cm .eql (ll (rw _ cS p0.Words)) 0)
 (cond (cm .eql (ll (rw _ cS p0.Words)) 0)
 (cond (cm .eql a7.E 0)
 ((at_ T_kinds 7).bind fun r8 =>
 cond (cm .eql a7.E 0)
 (cond (cm .eql a7.E 0)
 (cond (cm .eql a7.E 0)
 (cond (cm .eql a7.E 0)
 (cond (cm .eql a7.E 0)
 (cond (cm .eql a7.E 0)
 ((selector_Text_g N p0.Sel).bind fun a9 =>
 cond (cm .eql a7.E 0)
 (cond (cm .eql a7.E 0)
 (cond (cm .eql a7.E 0)
 (cond (cm .eql a7.E 0)
 (some (cm .leq (ar .add .i64 (ar .add .i64 (sl r8) 1) (sl a9)) 2048))
 (none))
 (none))
 (none))
 (none))
 (none))
 (none))
 (none))
 (none))
 (none))
 (none))
 (cond (cm .eql a7.E 0)
 (none)
 (cond (cm .eql a7.E 0)
 (none)
 (cond (cm .eql a7.E 0)
 (none)
 (cond (cm .eql a7.E 0)
 (none)
 (cond (cm .eql a7.E 0)
 (none)
 (cond (cm .eql a7.E 0)
 (none)
 (cond (cm .eql a7.E 0)
 (none)
 (cond (cm .eql a7.E 0)
 (none)
 (cond (cm .eql a7.E 0)
 (none)
 (cond (cm .eql a7.E 0)
 (none)
 (some false))))))))))))
 (none))
 (none))
 (none))
 (none))
 (none))
 (cond (cm .eql (ll (rw _ cS p0.Words)) 0)
 (none)
 (cond (cm .eql (ll (rw _ cS p0.Words)) 0)
 (none)
 (cond (cm .eql (ll (rw _ cS p0.Words)) 0)
 (none)
 (cond (cm .eql (ll (rw _ cS p0.Words)) 0)
 (none)
 (cond (cm .eql (ll (rw _ cS p0.Words)) 0)
 (none)
 (some false)))))))
 (some false))))))
def name_Join_s (R : RF) (r : ByteArray) : V := fS r
def name_Join_g (p0 : List ByteArray) : Option ByteArray :=
 (strings_Join_g p0 (ByteArray.mk #[32])).bind fun a1 =>
 some a1
def caveat_Text_s (R : RF) (r : ByteArray) : V := fS r
def caveat_Text_g (N : Nat) (p0 : GCaveat) : Option ByteArray :=
 (caveat_Right_g N p0).bind fun a1 =>
 cond (!a1)
 (some ByteArray.empty)
 ((at_ T_kinds p0.Kind).bind fun r2 =>
 cond (ctB r2 (ByteArray.mk #[32])) ((cond (cm .eql p0.Kind 5)
 (some (cm .eql p0.Kind 5))
 (some (cm .eql p0.Kind 6)) : Option Bool).bind fun j1 =>
 cond (j1)
 ((strconv_Itoa_g p0.Num).bind fun a3 =>
 cond (ctB (ct r2 (ByteArray.mk #[32])) a3) (some (ct (ct r2 (ByteArray.mk #[32])) a3)) none)
 (cond (cm .eql p0.Kind 7)
 ((selector_Text_g N p0.Sel).bind fun a4 =>
 cond (ctB (ct r2 (ByteArray.mk #[32])) a4) (some (ct (ct r2 (ByteArray.mk #[32])) a4)) none)
 ((name_Join_g p0.Words).bind fun a5 =>
 cond (ctB (ct r2 (ByteArray.mk #[32])) a5) (some (ct (ct r2 (ByteArray.mk #[32])) a5)) none))) none)
def caveat_Allows_s (R : RF) (r : Bool) : V := fB r
def caveat_Allows_l3 (p0 : GCaveat) (p1 : GFacts) : Nat → Int → Option Bool
| 0, _ => none
| m + 1, v5 =>
 cond (cm .lss v5 (ll (rw _ cS p0.Words)))
 ((at_ p0.Words v5).bind fun r6 =>
 (caveat_do_g r6).bind fun a7 =>
 cond (cm .eql a7 p1.Do)
 (some (cm .geq v5 0))
 ((caveat_Allows_l3 p0 p1 m) (ar .add .i64 v5 1)))
 (some (cm .geq (-1) 0))
def caveat_Allows_g (N : Nat) (p0 : GCaveat) (p1 : GFacts) : Option Bool :=
 (caveat_Right_g N p0).bind fun a1 =>
 cond (!a1)
 (some false)
 (cond (cm .eql p0.Kind 1)
 ((at_ p0.Words 0).bind fun r2 =>
 some (sc .eql r2 p1.Tenant))
 (cond (cm .eql p0.Kind 2)
 ((slices_Contains_S_g N p0.Words p1.Endpoint).bind fun a3 =>
 some a3)
 (cond (cm .eql p0.Kind 3)
 ((slices_Contains_S_g N p0.Words p1.Class).bind fun a4 =>
 some a4)
 (cond (cm .eql p0.Kind 4)
 (caveat_Allows_l3 p0 p1 N 0)
 (cond (cm .eql p0.Kind 5)
 (some (cm .lss p1.Now p0.Num))
 (cond (cm .eql p0.Kind 6)
 (some (cm .geq p1.Now p0.Num))
 (some true)))))))
def name_Words_s (R : RF) (r : (List ByteArray) × Bool) : V := .tup [.t (.slc (R _ cS r.1)), fB r.2]
def name_Words_l1 (N : Nat) (a1 : List ByteArray) : Nat → Int → Option ((List ByteArray) × Bool)
| 0, _ => none
| m + 1, v2 =>
 cond (cm .lss v2 (ll (rw _ cS a1)))
 ((at_ a1 v2).bind fun r3 =>
 (name_Word_g N r3).bind fun a4 =>
 cond (!a4)
 (some ([], false))
 ((name_Words_l1 N a1 m) (ar .add .i64 v2 1)))
 (some (a1, true))
def name_Words_g (N : Nat) (p0 : ByteArray) : Option ((List ByteArray) × Bool) :=
 (strings_Split_g p0 (ByteArray.mk #[32])).bind fun a1 =>
 name_Words_l1 N a1 N 0
def caveat_Parse_s (R : RF) (r : GCaveat × Bool) : V := .tup [.agg [fI .i64 r.1.Kind, fI .i64 r.1.Num, .t (.slc (R _ cS r.1.Words)), .t (.slc (R _ cMatcher r.1.Sel))], fB r.2]
def caveat_Parse_g (N : Nat) (p0 : ByteArray) : Option (GCaveat × Bool) :=
 cond (cm .gtr (sl p0) 2048)
 (some ((⟨0, 0, [], []⟩ : GCaveat), false))
 ((strings_Cut_g p0 (ByteArray.mk #[32])).bind fun a1 =>
 (slices_Index_S_g N T_kinds a1.1).bind fun a2 =>
 (cond (cm .eql (mx 0 a2) 5)
 (some (cm .eql (mx 0 a2) 5))
 (some (cm .eql (mx 0 a2) 6)) : Option Bool).bind fun j1 =>
 cond (j1)
 ((strconv_Atoi_g a1.2.1).bind fun a3 =>
 ((caveat_Right_g N (⟨mx 0 a2, a3, [], []⟩ : GCaveat)).bind fun a4 =>
 cond (!a4)
 (some true)
 ((caveat_Text_g N (⟨mx 0 a2, a3, [], []⟩ : GCaveat)).bind fun a5 =>
 some (sc .neq a5 p0)) : Option Bool).bind fun j2 =>
 cond (j2)
 (some ((⟨0, 0, [], []⟩ : GCaveat), false))
 (some ((⟨mx 0 a2, a3, [], []⟩ : GCaveat), true)))
 (cond (cm .eql (mx 0 a2) 7)
 ((selector_Parse_g N a1.2.1).bind fun a6 =>
 ((caveat_Right_g N (⟨mx 0 a2, 0, [], a6.1⟩ : GCaveat)).bind fun a7 =>
 cond (!a7)
 (some true)
 ((caveat_Text_g N (⟨mx 0 a2, 0, [], a6.1⟩ : GCaveat)).bind fun a8 =>
 some (sc .neq a8 p0)) : Option Bool).bind fun j3 =>
 cond (j3)
 (some ((⟨0, 0, [], []⟩ : GCaveat), false))
 (some ((⟨mx 0 a2, 0, [], a6.1⟩ : GCaveat), true)))
 ((name_Words_g N a1.2.1).bind fun a9 =>
 ((caveat_Right_g N (⟨mx 0 a2, 0, a9.1, []⟩ : GCaveat)).bind fun a10 =>
 cond (!a10)
 (some true)
 ((caveat_Text_g N (⟨mx 0 a2, 0, a9.1, []⟩ : GCaveat)).bind fun a11 =>
 some (sc .neq a11 p0)) : Option Bool).bind fun j4 =>
 cond (j4)
 (some ((⟨0, 0, [], []⟩ : GCaveat), false))
 (some ((⟨mx 0 a2, 0, a9.1, []⟩ : GCaveat), true)))))
def l27_works_s (R : RF) (r : Bool) : V := fB r
def l27_works_g (N : Nat) : Option Bool :=
 (caveat_Parse_g N (ByteArray.mk #[101, 110, 100, 112, 111, 105, 110, 116, 32, 113, 117, 101, 114, 121, 32, 115, 101, 114, 105, 101, 115])).bind fun a1 =>
 (caveat_Parse_g N (ByteArray.mk #[98, 101, 102, 111, 114, 101, 32, 49, 50, 48])).bind fun a2 =>
 (caveat_Parse_g N (ByteArray.mk #[109, 97, 116, 99, 104, 32, 123, 101, 110, 118, 61, 34, 112, 114, 111, 100, 34, 125])).bind fun a3 =>
 (caveat_Parse_g N (ByteArray.mk #[98, 101, 102, 111, 114, 101, 32, 48, 49, 50, 48])).bind fun a4 =>
 (cond (a1.2)
 ((caveat_Allows_g N a1.1 (⟨ByteArray.empty, (ByteArray.mk #[115, 101, 114, 105, 101, 115]), ByteArray.empty, 0, 0⟩ : GFacts)).bind fun a5 =>
 cond (a5)
 ((caveat_Allows_g N a1.1 (⟨ByteArray.empty, ByteArray.empty, ByteArray.empty, 0, 0⟩ : GFacts)).bind fun a6 =>
 cond (!a6)
 (cond (a2.2)
 ((caveat_Allows_g N a2.1 (⟨ByteArray.empty, ByteArray.empty, ByteArray.empty, 0, 119⟩ : GFacts)).bind fun a7 =>
 cond (a7)
 ((caveat_Allows_g N a2.1 (⟨ByteArray.empty, ByteArray.empty, ByteArray.empty, 0, 120⟩ : GFacts)).bind fun a8 =>
 cond (!a8)
 (cond (a3.2)
 (cond (cm .eql (ll (rw _ cMatcher a3.1.Sel)) 1)
 (cond (!a4.2)
 ((caveat_Text_g N a1.1).bind fun a9 =>
 some (sc .eql a9 (ByteArray.mk #[101, 110, 100, 112, 111, 105, 110, 116, 32, 113, 117, 101, 114, 121, 32, 115, 101, 114, 105, 101, 115])))
 (some false))
 (some false))
 (some false))
 (some false))
 (some false))
 (some false))
 (some false))
 (some false))
 (some false) : Option Bool).bind fun j1 =>
 some j1
def r09_Word_l1 (p0 : ByteArray) : Nat → Int → Option Bool
| 0, _ => none
| m + 1, v1 =>
 cond (cm .lss v1 (sl p0))
 ((cond (sinB p0 v1) (cond (cm .geq (sa p0 v1) 97)
 (cond (sinB p0 v1) (some (cm .leq (sa p0 v1) 122)) none)
 (some false)) none : Option Bool).bind fun j5 =>
 (cond (sinB p0 v1) (cond (cm .eql (sa p0 v1) 45)
 (some true)
 (cond (sinB p0 v1) (cond (cm .geq (sa p0 v1) 48)
 (cond (sinB p0 v1) (some (cm .leq (sa p0 v1) 57)) none)
 (some false)) none)) none : Option Bool).bind fun j6 =>
 (cond (!j5)
 (cond (cm .eql v1 0)
 (some true)
 (some !j6))
 (some false) : Option Bool).bind fun j7 =>
 cond (j7)
 (some false)
 ((r09_Word_l1 p0 m) (ar .add .i64 v1 1)))
 (some true)
def r09_Word_g (N : Nat) (p0 : ByteArray) : Option Bool :=
 (cond (cm .lss (sl p0) 1)
 (some true)
 (some (cm .gtr (sl p0) 32)) : Option Bool).bind fun j1 =>
 cond (j1)
 (some false)
 (r09_Word_l1 p0 N 0)
def r27_once_l2 (k1 : Int → Option Bool) (p0 : List ByteArray) (v1 : Int) : Nat → Int → Option Bool
| 0, _ => none
| m + 1, v4 =>
 cond (cm .lss v4 v1)
 ((at_ p0 v4).bind fun r5 =>
 (at_ p0 v1).bind fun r6 =>
 cond (sc .eql r5 r6)
 (some false)
 ((r27_once_l2 k1 p0 v1 m) (ar .add .i64 v4 1)))
 (k1 (ar .add .i64 v1 1))
def r27_once_l1 (N : Nat) (p0 : List ByteArray) : Nat → Int → Option Bool
| 0, _ => none
| m + 1, v1 =>
 cond (cm .lss v1 (ll (rw _ cS p0)))
 ((at_ p0 v1).bind fun r2 =>
 (r09_Word_g N r2).bind fun a3 =>
 cond (!a3)
 (some false)
 (r27_once_l2 (r27_once_l1 N p0 m) p0 v1 N 0))
 (some true)
def r27_once_g (N : Nat) (p0 : List ByteArray) (p1 : Int) : Option Bool :=
 (cond (cm .lss (ll (rw _ cS p0)) 1)
 (some true)
 (some (cm .gtr (ll (rw _ cS p0)) p1)) : Option Bool).bind fun j1 =>
 cond (j1)
 (some false)
 (r27_once_l1 N p0 N 0)
def r27_Right_l1 (N : Nat) (p0 : GCaveat) : Nat → Int → Option Bool
| 0, _ => none
| m + 1, v3 =>
 cond (cm .lss v3 (ll (rw _ cS p0.Words)))
 (((at_ p0.Words v3).bind fun r4 =>
 cond (sc .neq r4 (ByteArray.mk #[113, 117, 101, 114, 121]))
 ((at_ p0.Words v3).bind fun r5 =>
 some (sc .neq r5 (ByteArray.mk #[119, 114, 105, 116, 101])))
 (some false) : Option Bool).bind fun j4 =>
 cond (j4)
 (some false)
 ((r27_Right_l1 N p0 m) (ar .add .i64 v3 1)))
 ((r27_once_g N p0.Words 2).bind fun a6 =>
 some a6)
def r27_Right_g (N : Nat) (p0 : GCaveat) : Option Bool :=
 (cond (cm .lss p0.Kind 7)
 (cond (cm .gtr (ll (rw _ cMatcher p0.Sel)) 0)
 (some true)
 (cond (cm .gtr p0.Kind 4)
 (cond (cm .gtr (ll (rw _ cS p0.Words)) 0)
 (some true)
 (cond (cm .neq p0.Kind 5)
 (cond (cm .neq p0.Kind 6)
 (some (cm .neq p0.Num 0))
 (some false))
 (some false)))
 (cond (cm .neq p0.Kind 5)
 (cond (cm .neq p0.Kind 6)
 (some (cm .neq p0.Num 0))
 (some false))
 (some false))))
 (cond (cm .gtr p0.Kind 4)
 (cond (cm .gtr (ll (rw _ cS p0.Words)) 0)
 (some true)
 (cond (cm .neq p0.Kind 5)
 (cond (cm .neq p0.Kind 6)
 (some (cm .neq p0.Num 0))
 (some false))
 (some false)))
 (cond (cm .neq p0.Kind 5)
 (cond (cm .neq p0.Kind 6)
 (some (cm .neq p0.Num 0))
 (some false))
 (some false))) : Option Bool).bind fun j1 =>
 cond (j1)
 (some false)
 (cond (cm .eql p0.Kind 1)
 ((r27_once_g N p0.Words 1).bind fun a1 =>
 some a1)
 ((cond (cm .eql p0.Kind 2)
 (some true)
 (some (cm .eql p0.Kind 3)) : Option Bool).bind fun j2 =>
 cond (j2)
 ((r27_once_g N p0.Words 16).bind fun a2 =>
 some a2)
 (cond (cm .eql p0.Kind 4)
 (r27_Right_l1 N p0 N 0)
 ((cond (cm .eql p0.Kind 5)
 (some true)
 (some (cm .eql p0.Kind 6)) : Option Bool).bind fun j5 =>
 cond (j5)
 ((cond (cm .geq p0.Num 0)
 (some (cm .leq p0.Num 1099511627776))
 (some false) : Option Bool).bind fun j6 =>
 some j6)
 ((cond (cm .eql p0.Kind 7)
 ((r23_Right_g N p0.Sel).bind fun a7 =>
 cond (cm .eql a7.E 0)
 ((r23_Text_g N p0.Sel).bind fun a8 =>
 some (cm .leq (sl a8) 2042))
 (some false))
 (some false) : Option Bool).bind fun j7 =>
 some j7)))))
def r27_First_g (p0 : Int) : Option ByteArray :=
 (cond (cm .lss p0 1)
 (some true)
 (some (cm .gtr p0 7)) : Option Bool).bind fun j1 =>
 cond (j1)
 (some ByteArray.empty)
 ((some [ByteArray.empty, (ByteArray.mk #[116, 101, 110, 97, 110, 116]), (ByteArray.mk #[101, 110, 100, 112, 111, 105, 110, 116]), (ByteArray.mk #[99, 108, 97, 115, 115]), (ByteArray.mk #[100, 111]), (ByteArray.mk #[98, 101, 102, 111, 114, 101]), (ByteArray.mk #[97, 102, 116, 101, 114]), (ByteArray.mk #[109, 97, 116, 99, 104])]).bind fun l1 =>
 (at_ l1 p0).bind fun r2 =>
 (at_ l1 p0).bind fun r3 =>
 some r3)
def r27_Number_g : Nat → Int → Option ByteArray
| 0 => fun _ => none
| N + 1 => fun p0 =>
 cond (cm .lss p0 10)
 (cond (ssinB (ByteArray.mk #[48, 49, 50, 51, 52, 53, 54, 55, 56, 57]) p0 (ar .add .i64 p0 1)) (some (ss (ByteArray.mk #[48, 49, 50, 51, 52, 53, 54, 55, 56, 57]) p0 (ar .add .i64 p0 1))) none)
 (cond (ne0B 10) (((r27_Number_g N) (ar .quo .i64 p0 10)).bind fun a1 =>
 cond (ne0B 10) (cond (ne0B 10) (cond (ssinB (ByteArray.mk #[48, 49, 50, 51, 52, 53, 54, 55, 56, 57]) (ar .rem .i64 p0 10) (ar .add .i64 (ar .rem .i64 p0 10) 1)) (cond (ctB a1 (ss (ByteArray.mk #[48, 49, 50, 51, 52, 53, 54, 55, 56, 57]) (ar .rem .i64 p0 10) (ar .add .i64 (ar .rem .i64 p0 10) 1))) (some (ct a1 (ss (ByteArray.mk #[48, 49, 50, 51, 52, 53, 54, 55, 56, 57]) (ar .rem .i64 p0 10) (ar .add .i64 (ar .rem .i64 p0 10) 1)))) none) none) none) none) none)
def r09_Join_l1 (p0 : List ByteArray) : Nat → ByteArray → Int → Option ByteArray
| 0, _, _ => none
| m + 1, v1, v2 =>
 cond (cm .lss v2 (ll (rw _ cS p0)))
 ((cond (cm .gtr v2 0)
 (cond (ctB v1 (ByteArray.mk #[32])) (some (ct v1 (ByteArray.mk #[32]))) none)
 (some v1) : Option ByteArray).bind fun j1 =>
 (at_ p0 v2).bind fun r3 =>
 cond (ctB j1 r3) ((r09_Join_l1 p0 m) (ct j1 r3) (ar .add .i64 v2 1)) none)
 (some v1)
def r09_Join_g (N : Nat) (p0 : List ByteArray) : Option ByteArray :=
 r09_Join_l1 p0 N ByteArray.empty 0
def r27_Text_g (N : Nat) (p0 : GCaveat) : Option ByteArray :=
 (r27_Right_g N p0).bind fun a1 =>
 cond (!a1)
 (some ByteArray.empty)
 ((cond (cm .eql p0.Kind 5)
 (some true)
 (some (cm .eql p0.Kind 6)) : Option Bool).bind fun j1 =>
 cond (j1)
 ((r27_First_g p0.Kind).bind fun a2 =>
 cond (ctB a2 (ByteArray.mk #[32])) ((r27_Number_g N p0.Num).bind fun a3 =>
 cond (ctB (ct a2 (ByteArray.mk #[32])) a3) (some (ct (ct a2 (ByteArray.mk #[32])) a3)) none) none)
 (cond (cm .eql p0.Kind 7)
 ((r27_First_g p0.Kind).bind fun a4 =>
 cond (ctB a4 (ByteArray.mk #[32])) ((r23_Text_g N p0.Sel).bind fun a5 =>
 cond (ctB (ct a4 (ByteArray.mk #[32])) a5) (some (ct (ct a4 (ByteArray.mk #[32])) a5)) none) none)
 ((r27_First_g p0.Kind).bind fun a6 =>
 cond (ctB a6 (ByteArray.mk #[32])) ((r09_Join_g N p0.Words).bind fun a7 =>
 cond (ctB (ct a6 (ByteArray.mk #[32])) a7) (some (ct (ct a6 (ByteArray.mk #[32])) a7)) none) none)))
end Gn
end Go.Proofs.YtagppjldegblhaaGreatDoor
namespace Go.Proofs.YtagppjldegblhaaGreatDoor
open Go Go.RowKit
open Sh Gn
namespace Pl
theorem small_p (c : Int) : (cond (cm .leq 97 c) (some (cm .leq c 122)) (some false) : Option Bool) = some (decide (97 ≤ c) && decide (c ≤ 122)) := by
 simp only [cm_leq, cond_dec]
 by_cases h : 97 ≤ c <;> simp [h]
def wAt (s : ByteArray) (f : Bool) (k : Nat) : Nat := Nm.run Nm.wsignB f (s.data.toList.drop k)
section
variable {s : ByteArray}
theorem wAt_end {k : Nat} {f : Bool} (h : ¬ k < s.size) : wAt s f k = 0 := by
 unfold wAt; rw [List.drop_of_length_le (by rw [size_list]; omega)]; rfl
theorem wAt_in {k : Nat} {f : Bool} (h : k < s.size) : wAt s f k = if Nm.wsignB (s[k].toNat) f then wAt s false (k + 1) + 1 else 0 := by
 unfold wAt
 rw [List.drop_eq_getElem_cons (by rw [size_list]; exact h)]
 rfl
theorem wdec_p (k : Nat) (h : k < s.size) (f : Bool) : Nm.wsignB (s[k].toNat) f = Nm.wsignB (Utf8.decode s k).1 f ∧ (Nm.wsignB (Utf8.decode s k).1 f = true → (Utf8.decode s k).2 = 1) := by
 by_cases ha : (s[k]'h).toNat < 128
 · rw [decode_ascii s k h ha]; exact ⟨rfl, fun _ => rfl⟩
 · have hd := decode_high s k h (by omega)
   have e1 : Nm.wsignB (Utf8.decode s k).1 f = false := by
    cases e : Nm.wsignB (Utf8.decode s k).1 f with
    | false => rfl
    | true => have := Nm.wsignB_lt e; omega
   have e2 : Nm.wsignB (s[k].toNat) f = false := by
    cases e : Nm.wsignB (s[k].toNat) f with
    | false => rfl
    | true => have := Nm.wsignB_lt e; omega
   exact ⟨by rw [e1, e2], fun e => by rw [e1] at e; cases e⟩
theorem wask_p (c : Int) (k : Nat) : (cond (!(decide (97 ≤ c) && decide (c ≤ 122))) (cond (cm .eql (k : Int) 0) (some true) ((name_digit_g c).bind fun a4 => cond (!a4) (some (cm .neq c 45)) (some false))) (some false) : Option Bool) = some (!Nm.wsignB c (k == 0)) := by
 rw [digit_p]
 simp only [Option.bind_some, cond_not, cm_eql, cm_neq, cond_dec]
 unfold Nm.wsignB
 cases k with
 | zero => cases (decide (97 ≤ c) && decide (c ≤ 122)) <;> rfl
 | succ k =>
   have : ¬ ((k + 1 : Nat) : Int) = 0 := by omega
   simp only [this, if_false]
   have e : (k + 1 == 0) = false := rfl
   rw [e]
   have e2 : (c == 45) = decide (c = 45) := by by_cases h : c = 45 <;> simp [h]
   rw [e2]
   cases (decide (97 ≤ c) && decide (c ≤ 122)) <;> cases Nm.digitB c <;> simp
theorem word_from : ∀ (m k : Nat), k ≤ s.size → s.size < k + m → name_Word_l1 s m k = some (decide (wAt s (k == 0) k = s.size - k)) := by
 intro m
 induction m with
 | zero => intro k h1 h2; omega
 | succ m ih =>
   intro k h1 h2
   unfold name_Word_l1 nx
   rw [Int.toNat_natCast]
   by_cases c : k < s.size
   · rw [if_pos c]; dsimp only; rw [small_p, Option.bind_some, wask_p, wAt_in c]
     obtain ⟨e1, e2⟩ := wdec_p (s := s) k c (k == 0)
     rw [e1]
     cases g : Nm.wsignB (Utf8.decode s k).1 (k == 0) with
     | false =>
       simp only [Option.bind_some, Bool.not_false, _root_.cond_true, Bool.false_eq_true, if_false]
       have : ¬ 0 = s.size - k := by omega
       rw [decide_eq_false this]
     | true =>
       have h3 : (k : Int) + ((Utf8.decode s k).2 : Int) = ((k + 1 : Nat) : Int) := by rw [e2 g]; rfl
       simp only [Option.bind_some, Bool.not_true, cond_false, if_true]
       rw [h3, ih (k + 1) (by omega) (by omega)]
       have e : (k + 1 == 0) = false := rfl
       rw [e]
       congr 1
       exact decide_eq_decide.2 (by omega)
   · rw [if_neg c, wAt_end c, decide_eq_true (by omega)]
theorem rword_from (hs : s.size ≤ 100000) : ∀ (m k : Nat), k ≤ s.size → s.size < k + m → r09_Word_l1 s m k = some (decide (wAt s (k == 0) k = s.size - k)) := by
 intro m
 induction m with
 | zero => intro k h1 h2; omega
 | succ m ih =>
   intro k h1 h2
   unfold r09_Word_l1
   rw [cm_lss, sl_eq, cond_dec]
   by_cases c : k < s.size
   · have e0 : (cm .eql (k : Int) 0) = (k == 0) := by rw [cm_eql]; cases k <;> simp; omega
     have e1 := inc1 (show k ≤ 100000000 by omega)
     have ea : sa s (k : Int) = (s[k].toNat : Int) := by
      show ((s.data.getD _ 0).toNat : Int) = _
      rw [Int.toNat_natCast, Array.getD_eq_getD_getElem?, Array.getElem?_eq_getElem c]; rfl
     rw [if_pos (by omega)]
     simp only [sin_in c, _root_.cond_true, e0, e1, ea, wAt_in c, cm_geq, cm_leq, cm_eql, cond_dec]
     have key : ∀ x : Int, (if 97 ≤ x then some (decide (x ≤ 122)) else some false : Option Bool) = some (decide (97 ≤ x) && decide (x ≤ 122)) := fun x => by by_cases h : 97 ≤ x <;> simp [h]
     have key2 : ∀ x : Int, (if x = 45 then some true else if 48 ≤ x then some (decide (x ≤ 57)) else some false : Option Bool) = some (Nm.digitB x || x == 45) := fun x => by
      unfold Nm.digitB
      by_cases h : x = 45
      · simp [h]
      · by_cases h2 : 48 ≤ x <;> simp [h, h2]
     rw [key, key2]
     simp only [Option.bind_some]
     have key3 : ∀ (x : Int), (cond (!(decide (97 ≤ x) && decide (x ≤ 122))) (cond (k == 0) (some true) (some (!(Nm.digitB x || x == 45)))) (some false) : Option Bool) = some (!Nm.wsignB x (k == 0)) := fun x => by
      unfold Nm.wsignB
      cases (decide (97 ≤ x) && decide (x ≤ 122)) <;> cases (k == 0) <;> simp
     rw [key3]
     cases g : Nm.wsignB (s[k].toNat) (k == 0) with
     | false =>
       simp only [Option.bind_some, Bool.not_false, _root_.cond_true, Bool.false_eq_true, if_false]
       have : ¬ 0 = s.size - k := by omega
       rw [decide_eq_false this]
     | true =>
       simp only [Option.bind_some, Bool.not_true, cond_false, if_true]
       rw [ih (k + 1) (by omega) (by omega)]
       have e : (k + 1 == 0) = false := rfl
       rw [e]
       congr 1
       exact decide_eq_decide.2 (by omega)
   · rw [if_neg (by omega), wAt_end c, decide_eq_true (by omega)]
def wrd (s : ByteArray) : Bool := Nm.wordB s.data.toList
theorem wrd_eq : wrd s = decide (1 ≤ s.size ∧ s.size ≤ 32 ∧ wAt s true 0 = s.size) := by
 unfold wrd Nm.wordB Nm.allB wAt
 rw [size_list, List.drop_zero]
 by_cases h1 : 1 ≤ s.size <;> by_cases h2 : s.size ≤ 32 <;> by_cases h3 : Nm.run Nm.wsignB true s.data.toList = s.size <;> simp [h1, h2, h3]
theorem word_p {N : Nat} (hN : 1000 ≤ N) : name_Word_g N s = some (wrd s) := by
 rw [wrd_eq]
 unfold name_Word_g
 rw [sc_eql, cm_gtr, cond_dec, sl_eq]
 by_cases c : 1 ≤ s.size
 · have c' : ¬ s = ByteArray.empty := fun e => by subst e; exact absurd c (by decide)
   rw [if_neg c']
   by_cases c2 : s.size ≤ 32
   · have : ¬ (32 : Int) < (s.size : Int) := by omega
     rw [decide_eq_false this]
     simp only [Option.bind_some, cond_false]
     rw [show (0 : Int) = ((0 : Nat) : Int) from rfl, word_from N 0 (by omega) (by omega)]
     simp [c, c2]
   · have : (32 : Int) < (s.size : Int) := by omega
     rw [decide_eq_true this]
     simp [c2]
 · have c' : s = ByteArray.empty := by
    apply ByteArray.ext
    apply Array.eq_empty_of_size_eq_zero
    show s.size = 0
    omega
   rw [if_pos c']
   simp [c]
theorem rword_p {N : Nat} (hN : 1000 ≤ N) : r09_Word_g N s = some (wrd s) := by
 rw [wrd_eq]
 unfold r09_Word_g
 rw [cm_gtr, cm_lss, cond_dec, sl_eq]
 by_cases c : 1 ≤ s.size
 · rw [if_neg (by omega)]
   by_cases c2 : s.size ≤ 32
   · have : ¬ (32 : Int) < (s.size : Int) := by omega
     rw [decide_eq_false this]
     simp only [Option.bind_some, cond_false]
     rw [show (0 : Int) = ((0 : Nat) : Int) from rfl, rword_from (by omega) N 0 (by omega) (by omega)]
     simp [c, c2]
   · have : (32 : Int) < (s.size : Int) := by omega
     rw [decide_eq_true this]
     simp [c2]
 · rw [if_pos (by omega)]
   simp [c]
end
end Pl
end Go.Proofs.YtagppjldegblhaaGreatDoor
namespace Go.Proofs.YtagppjldegblhaaGreatDoor
open Go Go.RowKit
open Sh Gn
namespace Pl
instance memDec (w : ByteArray) (l : List ByteArray) : Decidable (w ∈ l) := decidable_of_iff (l.any (fun x => decide (x = w)) = true) (by simp)
theorem idx_from (l : List ByteArray) (w : ByteArray) (hl : l.length ≤ 100000) : ∀ (m k : Nat), k ≤ l.length → l.length < k + m → ∃ j : Int, slices_Index_S_l1 l w m k = some j ∧ (0 ≤ j ↔ w ∈ l.drop k) := by
 intro m
 induction m with
 | zero => intro k h1 h2; omega
 | succ m ih =>
   intro k h1 h2
   rw [slices_Index_S_l1, cm_lss, cond_dec, ll_eq]
   by_cases c : k < l.length
   · rw [if_pos (by omega), at_get c, Option.bind_some, sc_eql, cond_dec, inc1 (by omega), List.drop_eq_getElem_cons c]
     by_cases g : w = l[k]
     · rw [if_pos g]; exact ⟨k, rfl, ⟨fun _ => by rw [g]; exact List.mem_cons_self, fun _ => by omega⟩⟩
     · rw [if_neg g]
       obtain ⟨j, h3, h4⟩ := ih (k + 1) (by omega) (by omega)
       exact ⟨j, h3, by rw [h4, List.mem_cons]; exact ⟨.inr, fun h => h.resolve_left g⟩⟩
   · rw [if_neg (by omega), List.drop_of_length_le (by omega)]
     exact ⟨-1, rfl, by simp⟩
theorem contains_p {N : Nat} (hN : 100000 < N) (l : List ByteArray) (hl : l.length ≤ 100000) (w : ByteArray) : slices_Contains_S_g N l w = some (decide (w ∈ l)) := by
 unfold slices_Contains_S_g slices_Index_S_g
 obtain ⟨j, h1, h2⟩ := idx_from l w hl N 0 (by omega) (by omega)
 have h1 : slices_Index_S_l1 l w N 0 = some j := h1
 rw [h1, Option.bind_some, cm_geq]
 congr 1
 exact decide_eq_decide.2 (by simpa using h2)
theorem once_val (l : List ByteArray) (k : Nat) : Cv.once l k = decide (1 ≤ l.length ∧ l.length ≤ k ∧ l.Nodup ∧ ∀ w ∈ l, wrd w = true) := by
 unfold Cv.once
 rw [Bool.eq_iff_iff, decide_eq_true_eq]
 simp only [Bool.and_eq_true, decide_eq_true_eq, List.all_eq_true, wrd]
theorem take_more {l : List ByteArray} {k : Nat} (c : k < l.length) (h1 : (l.take k).Nodup) (h2 : ∀ w ∈ l.take k, wrd w = true) (h3 : l[k] ∉ l.take k) (h4 : wrd l[k] = true) : (l.take (k + 1)).Nodup ∧ ∀ w ∈ l.take (k + 1), wrd w = true := by
 rw [List.take_add_one, List.getElem?_eq_getElem c]
 simp only [Option.toList_some]
 refine ⟨List.nodup_append.2 ⟨h1, by simp, fun a ha b hb e => ?_⟩, fun w hw => ?_⟩
 · obtain rfl := List.mem_singleton.1 hb
   exact h3 (e ▸ ha)
 · rcases List.mem_append.1 hw with hw | hw
   · exact h2 w hw
   · obtain rfl := List.mem_singleton.1 hw; exact h4
theorem dup_no {l : List ByteArray} {k : Nat} (c : k < l.length) (h : l[k] ∈ l.take k) : ¬ l.Nodup := by
 intro hn
 rw [← List.take_append_drop k l] at hn
 have := (List.nodup_append.1 hn).2.2 _ h l[k] (by rw [List.drop_eq_getElem_cons c]; exact List.mem_cons_self)
 exact this rfl
theorem once_from {N : Nat} (hN : 100000 < N) (l : List ByteArray) (hl : l.length ≤ 100000) : ∀ (m k : Nat), k ≤ l.length → l.length < k + m → (l.take k).Nodup → (∀ w ∈ l.take k, wrd w = true) → caveat_once_l1 N l m k = some (Cv.once l 16) := by
 intro m
 induction m with
 | zero => intro k h1 h2; omega
 | succ m ih =>
   intro k h1 h2 h3 h4
   rw [caveat_once_l1]
   simp only [cm_lss, cm_gtr, cm_leq, cond_dec, ll_eq]
   by_cases c : k < l.length
   · have hsub : sub cS l 0 (k : Int) = some (l.take k) := by unfold sub; rw [if_pos (by omega)]; simp
     rw [if_pos (by omega), at_get c, Option.bind_some, word_p (by omega), Option.bind_some, inc1 (by omega)]
     cases g : wrd l[k] with
     | false =>
       have : Cv.once l 16 = false := by
        rw [once_val]
        exact decide_eq_false fun h => by have := h.2.2.2 _ (List.getElem_mem c); rw [g] at this; cases this
       rw [this]; rfl
     | true =>
       simp only [Bool.not_true, cond_false, hsub, Option.bind_some, contains_p hN (l.take k) (by rw [List.length_take]; omega)]
       by_cases d : l[k] ∈ l.take k
       · have : Cv.once l 16 = false := by
          rw [once_val]
          exact decide_eq_false fun h => dup_no c d h.2.2.1
         rw [decide_eq_true d, this]; rfl
       · obtain ⟨t1, t2⟩ := take_more c h3 h4 d g
         rw [decide_eq_false d]
         exact ih (k + 1) (by omega) (by omega) t1 t2
   · rw [if_neg (by omega)]
     rw [List.take_of_length_le (by omega)] at h3 h4
     rw [once_val]
     by_cases z : 0 < l.length
     · rw [if_pos (by omega), Option.bind_some]
       congr 1
       exact decide_eq_decide.2 ⟨fun h => ⟨by omega, by omega, h3, h4⟩, fun h => by omega⟩
     · rw [if_neg (by omega), Option.bind_some]
       congr 1
       exact (decide_eq_false fun h => by omega).symm
theorem once_p {N : Nat} (hN : 100000 < N) (l : List ByteArray) (hl : l.length ≤ 100000) : caveat_once_g N l = some (Cv.once l 16) := once_from hN l hl N 0 (by omega) (by omega) (by simp) (by simp)
theorem once2_from (k1 : Int → Option Bool) (l : List ByteArray) (v : Nat) (hv : v < l.length) (hl : l.length ≤ 100000) : ∀ (m j : Nat), j ≤ v → v < j + m → r27_once_l2 k1 l v m j = if l[v] ∈ (l.take v).drop j then some false else k1 ((v + 1 : Nat) : Int) := by
 intro m
 induction m with
 | zero => intro j h1 h2; omega
 | succ m ih =>
   intro j h1 h2
   rw [r27_once_l2]
   simp only [cm_lss, cond_dec]
   by_cases c : j < v
   · have hj : j < (l.take v).length := by rw [List.length_take]; omega
     rw [if_pos (by omega), at_get (show j < l.length by omega), Option.bind_some, at_get hv, Option.bind_some, sc_eql, cond_dec, inc1 (by omega), List.drop_eq_getElem_cons hj, List.getElem_take]
     by_cases g : l[j] = l[v]
     · rw [if_pos g, if_pos (by rw [g]; exact List.mem_cons_self)]
     · rw [if_neg g, ih (j + 1) (by omega) (by omega)]
       have : (l[v] ∈ l[j] :: List.drop (j + 1) (List.take v l)) ↔ l[v] ∈ List.drop (j + 1) (List.take v l) := by rw [List.mem_cons]; exact ⟨fun h => h.resolve_left (Ne.symm g), .inr⟩
       simp only [this]
   · rw [if_neg (by omega), List.drop_of_length_le (by rw [List.length_take]; omega), if_neg (by simp), inc1 (by omega)]
theorem ronce_from {N : Nat} (hN : 100000 < N) (l : List ByteArray) (hl : l.length ≤ 100000) : ∀ (m k : Nat), k ≤ l.length → l.length < k + m → (l.take k).Nodup → (∀ w ∈ l.take k, wrd w = true) → r27_once_l1 N l m k = some (decide (l.Nodup ∧ ∀ w ∈ l, wrd w = true)) := by
 intro m
 induction m with
 | zero => intro k h1 h2; omega
 | succ m ih =>
   intro k h1 h2 h3 h4
   rw [r27_once_l1]
   simp only [cm_lss, cond_dec, ll_eq]
   by_cases c : k < l.length
   · rw [if_pos (by omega), at_get c, Option.bind_some, rword_p (by omega), Option.bind_some]
     cases g : wrd l[k] with
     | false =>
       rw [decide_eq_false fun h => by have := h.2 _ (List.getElem_mem c); rw [g] at this; cases this]; rfl
     | true =>
       simp only [Bool.not_true, cond_false]
       rw [show (0 : Int) = ((0 : Nat) : Int) from rfl, once2_from _ l k c hl N 0 (by omega) (by omega), List.drop_zero]
       by_cases d : l[k] ∈ l.take k
       · rw [if_pos d, decide_eq_false fun h => dup_no c d h.1]
       · obtain ⟨t1, t2⟩ := take_more c h3 h4 d g
         rw [if_neg d]
         exact ih (k + 1) (by omega) (by omega) t1 t2
   · rw [if_neg (by omega)]
     rw [List.take_of_length_le (by omega)] at h3 h4
     rw [decide_eq_true ⟨h3, h4⟩]
theorem ronce_p {N : Nat} (hN : 100000 < N) (l : List ByteArray) (hl : l.length ≤ 100000) (k : Nat) : r27_once_g N l (k : Int) = some (Cv.once l k) := by
 unfold r27_once_g
 rw [once_val, cm_lss, cm_gtr, cond_dec, ll_eq]
 by_cases c : l.length < 1
 · rw [if_pos (by omega), decide_eq_false fun h => by omega]; rfl
 · rw [if_neg (by omega), Option.bind_some]
   by_cases d : k < l.length
   · rw [decide_eq_true (by omega : (k : Int) < (l.length : Int)), decide_eq_false fun h => by omega]; rfl
   · rw [decide_eq_false (by omega : ¬ (k : Int) < (l.length : Int))]
     show r27_once_l1 N l N 0 = _
     rw [show (0 : Int) = ((0 : Nat) : Int) from rfl, ronce_from hN l hl N 0 (by omega) (by omega) (by simp) (by simp)]
     congr 1
     exact decide_eq_decide.2 ⟨fun h => ⟨by omega, by omega, h.1, h.2⟩, fun h => ⟨h.2.2.1, h.2.2.2⟩⟩
theorem do_p (w : ByteArray) : caveat_do_g w = some (Cv.doW w) := by
 unfold caveat_do_g Cv.doW
 rw [show at_ T_dos 1 = some (ByteArray.mk #[113, 117, 101, 114, 121]) from rfl, show at_ T_dos 2 = some (ByteArray.mk #[119, 114, 105, 116, 101]) from rfl]
 simp only [Option.bind_some, sc_eql, cond_dec]
 by_cases h1 : w = ByteArray.mk #[113, 117, 101, 114, 121]
 · rw [if_pos h1, if_pos h1]
 · rw [if_neg h1, if_neg h1]
   by_cases h2 : w = ByteArray.mk #[119, 114, 105, 116, 101]
   · rw [if_pos h2, if_pos h2]
   · rw [if_neg h2, if_neg h2]
def good (w : ByteArray) : Bool := !decide (Cv.doW w = 0)
theorem good_iff (w : ByteArray) : good w = true ↔ w = ByteArray.mk #[113, 117, 101, 114, 121] ∨ w = ByteArray.mk #[119, 114, 105, 116, 101] := by
 unfold good Cv.doW
 by_cases h1 : w = ByteArray.mk #[113, 117, 101, 114, 121]
 · simp [h1]
 · by_cases h2 : w = ByteArray.mk #[119, 114, 105, 116, 101]
   · simp [h2]
   · simp [h1, h2]
theorem dos_from (c0 : GCaveat) (hl : c0.Words.length ≤ 100000) : ∀ (m k : Nat), k ≤ c0.Words.length → c0.Words.length < k + m → caveat_Right_l3 c0 m k = some ((c0.Words.drop k).all good) := by
 intro m
 induction m with
 | zero => intro k h1 h2; omega
 | succ m ih =>
   intro k h1 h2
   rw [caveat_Right_l3]
   simp only [cm_lss, cm_eql, cm_geq, cond_dec, ll_eq]
   by_cases c : k < c0.Words.length
   · rw [if_pos (by omega), at_get c, Option.bind_some, do_p, Option.bind_some, inc1 (by omega), List.drop_eq_getElem_cons c, List.all_cons]
     by_cases g : Cv.doW c0.Words[k] = 0
     · rw [if_pos g]
       have : good c0.Words[k] = false := by unfold good; simp [g]
       rw [this, decide_eq_true (by omega : (0 : Int) ≤ (k : Int))]; rfl
     · rw [if_neg g, ih (k + 1) (by omega) (by omega)]
       have : good c0.Words[k] = true := by unfold good; simp [g]
       rw [this, Bool.true_and]
   · rw [if_neg (by omega), List.drop_of_length_le (by omega)]; rfl
theorem rdos_from {N : Nat} (hN : 100000 < N) (c0 : GCaveat) (hl : c0.Words.length ≤ 100000) : ∀ (m k : Nat), k ≤ c0.Words.length → c0.Words.length < k + m → r27_Right_l1 N c0 m k = some ((c0.Words.drop k).all good && Cv.once c0.Words 2) := by
 intro m
 induction m with
 | zero => intro k h1 h2; omega
 | succ m ih =>
   intro k h1 h2
   rw [r27_Right_l1]
   simp only [cm_lss, cond_dec, ll_eq]
   by_cases c : k < c0.Words.length
   · rw [if_pos (by omega), at_get c]
     simp only [Option.bind_some, sc_neq, cond_not, cond_dec]
     rw [inc1 (by omega), List.drop_eq_getElem_cons c, List.all_cons]
     by_cases g : good c0.Words[k] = true
     · rw [g, Bool.true_and]
       rcases (good_iff _).1 g with e | e
       · rw [if_pos e]
         exact ih (k + 1) (by omega) (by omega)
       · have h3 : ¬ c0.Words[k] = ByteArray.mk #[113, 117, 101, 114, 121] := by rw [e]; decide
         rw [if_neg h3, Option.bind_some, decide_eq_true e]
         exact ih (k + 1) (by omega) (by omega)
     · have h3 := fun h => g ((good_iff _).2 h)
       have h4 : ¬ c0.Words[k] = ByteArray.mk #[113, 117, 101, 114, 121] := fun e => h3 (.inl e)
       have h5 : ¬ c0.Words[k] = ByteArray.mk #[119, 114, 105, 116, 101] := fun e => h3 (.inr e)
       rw [if_neg h4, Option.bind_some, decide_eq_false h5, Bool.eq_false_iff.2 g]; rfl
   · rw [if_neg (by omega), List.drop_of_length_le (by omega)]
     have := ronce_p hN c0.Words hl 2
     have : r27_once_g N c0.Words 2 = _ := this
     rw [this]; rfl
theorem two_most {l : List ByteArray} (h : l.Nodup) (hg : ∀ w ∈ l, good w = true) : l.length ≤ 2 := by
 match l, h, hg with
 | [], _, _ => simp
 | [_], _, _ => simp
 | [_, _], _, _ => simp
 | a :: b :: c :: r, h, hg =>
   exfalso
   simp only [List.nodup_cons, List.mem_cons, not_or] at h
   rcases (good_iff a).1 (hg a (by simp)) with ha | ha <;> rcases (good_iff b).1 (hg b (by simp)) with hb | hb <;> rcases (good_iff c).1 (hg c (by simp)) with hc | hc <;> subst ha <;> subst hb <;> subst hc <;> simp at h
theorem once_dos (l : List ByteArray) : (Cv.once l 16 && l.all good) = (Cv.once l 2 && l.all good) := by
 by_cases g : l.all good = true
 · rw [g, Bool.and_true, Bool.and_true, once_val, once_val]
   exact decide_eq_decide.2 ⟨fun h => ⟨h.1, two_most h.2.2.1 (List.all_eq_true.1 g), h.2.2⟩, fun h => ⟨h.1, by omega, h.2.2⟩⟩
 · rw [Bool.eq_false_iff.2 g, Bool.and_false, Bool.and_false]
end Pl
end Go.Proofs.YtagppjldegblhaaGreatDoor
