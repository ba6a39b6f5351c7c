/- Texts that the proof leans on. -/
import Derived.Test.YtpplemjjeefpdaaGreatDoorK235
import Derived.Test.YtpplemjjeefpdaaGreatDoorK229
set_option linter.unusedVariables false
set_option linter.unusedSimpArgs false
set_option maxRecDepth 100000
set_option maxHeartbeats 4000000
namespace Go.Proofs.YtpplemjjeefpdaaGreatDoor
open Go Go.Lib
namespace Qu
theorem runeN_same {n n' b0 b1 b2 b3 c1 c2 c3 k:Nat} (h:runeN n b0 b1 b2 b3=k) (hk:0<k) (hn:k≤n') (h1:1<k→c1=b1) (h2:2<k→c2=b2) (h3:3<k→c3=b3):runeN n' b0 c1 c2 c3=k:=by
 unfold runeN at h ⊢
 by_cases d1:b0<128
 · rw [if_pos d1] at h ⊢;exact h
 rw [if_neg d1] at h ⊢
 by_cases d2:194≤b0∧b0≤223∧1<n∧128≤b1∧b1≤191
 · rw [if_pos d2] at h
   have:=h1 (by omega)
   rw [if_pos (by omega)];exact h
 rw [if_neg d2] at h
 by_cases d3:224≤b0∧b0≤239∧(2<n∧128≤b1∧b1≤191∧128≤b2∧b2≤191)∧(b0≠224∨160≤b1)∧(b0≠237∨b1<160)
 · rw [if_pos d3] at h
   have:=h1 (by omega)
   have:=h2 (by omega)
   rw [if_neg (by omega),if_pos (by omega)];exact h
 rw [if_neg d3] at h
 by_cases d4:240≤b0∧b0≤244∧(3<n∧128≤b1∧b1≤191∧128≤b2∧b2≤191∧128≤b3∧b3≤191)∧(b0≠240∨144≤b1)∧(b0≠244∨b1<144)
 · rw [if_pos d4] at h
   have:=h1 (by omega)
   have:=h2 (by omega)
   have:=h3 (by omega)
   rw [if_neg (by omega),if_neg (by omega),if_pos (by omega)];exact h
 · rw [if_neg d4] at h;omega
theorem bt_drop (l:List UInt8) (p j:Nat):bt l (p+j)=bt (l.drop p) j:=by unfold bt;rw [List.getElem?_drop]
theorem bt_app {a:List UInt8} {j:Nat} (h:j<a.length) (b:List UInt8):bt (a++b) j=bt a j:=by unfold bt;rw [List.getElem?_append_left h]
theorem bt_take {l:List UInt8} {j k:Nat} (h:j<k):bt (l.take k) j=bt l j:=by unfold bt;rw [List.getElem?_take_of_lt h]
theorem dig_hexd (n:Nat) (h:n<16):dig (hexd n).toNat=n:=by
 have key:∀n:Fin 16,dig (hexd n.val).toNat=n.val:=by decide
 exact key ⟨n,h⟩
theorem take_unit (l:List UInt8) (i:Nat):l.take i++(l.drop i).take (unit l i)=l.take (i+unit l i):=by rw [List.take_add]
theorem take_byte {l:List UInt8} {i:Nat} (h:i<l.length):(l.drop i).take 1=[UInt8.ofNat (bt l i)]:=by
 have e:bt l i=l[i].toNat:=by unfold bt;rw [List.getElem?_eq_getElem h]
 rw [e,List.drop_eq_getElem_cons h]
 show [l[i]]=_
 simp
theorem rune_one {l:List UInt8} {i:Nat} (h:bt l i<128):rune l i=1:=by unfold rune runeN;rw [if_pos h]
theorem go_back (l m post:List UInt8):∀(f i p:Nat) (out:List UInt8),l.length≤i+f→i≤l.length→out=l.take i→m.drop p=rest l i++34::post→go m out p=.ok l (p+(rest l i).length+1):=by
 intro f
 induction f with
 | zero=>
   intro i p out hf hi ho hd
   rw [rest_end (by omega),List.nil_append] at hd
   have hp:p<m.length:=by
    rcases Nat.lt_or_ge p m.length with h | h
    · exact h
    · rw [List.drop_eq_nil_of_le h] at hd;cases hd
   have hb:bt m p=34:=by
    have:=bt_drop m p 0
    rw [hd] at this
    exact this
   rw [go_in hp,if_pos hb,rest_end (by omega),ho,List.take_of_length_le (by omega)]
   rfl
 | succ f ih=>
   intro i p out hf hi ho hd
   by_cases hlt:i<l.length
   case neg=>
    have hz:rest l i=[]:=rest_end (by omega)
    rw [hz,List.nil_append] at hd
    have hp:p<m.length:=by
     rcases Nat.lt_or_ge p m.length with h | h
     · exact h
     · rw [List.drop_eq_nil_of_le h] at hd;cases hd
    have hb:bt m p=34:=by
     have:=bt_drop m p 0
     rw [hd] at this
     exact this
    rw [go_in hp,if_pos hb,hz,ho,List.take_of_length_le (by omega)]
    rfl
   have hu:=unit_pos l i
   have hul:=unit_le hlt
   have hre:=rest_in hlt
   have hml:m.length=p+(rest l i).length+1+post.length:=by
    have h1:=congrArg List.length hd
    rw [List.length_drop,List.length_append,List.length_cons] at h1
    omega
   have hen:1≤(enc l i).length:=by
    unfold enc
    (repeat' split)
    · simp
    · rw [List.length_take,List.length_drop];omega
    · simp
   have hrl:(rest l i).length=(enc l i).length+(rest l (i+unit l i)).length:=by rw [hre,List.length_append]
   have hp:p<m.length:=by omega
   have hat:∀j,j<(enc l i).length→bt m (p+j)=bt (enc l i) j:=fun j hj=>by
    rw [bt_drop,hd,hre,List.append_assoc,bt_app hj]
   have hnext:m.drop (p+(enc l i).length)=rest l (i+unit l i)++34::post:=by
    rw [←List.drop_drop,hd,hre,List.append_assoc,List.drop_left]
   have step:∀t,un m p=.ok t (enc l i).length→t=(l.drop i).take (unit l i)→bt m p≠34→go m out p=.ok l (p+(rest l i).length+1):=fun t h1 h2 h3=>by
    rw [go_in hp,if_neg h3,h1]
    dsimp only
    rw [ih (i+unit l i) (p+(enc l i).length) (out++t) (by omega) (by omega) (by rw [ho,h2,take_unit]) hnext,hrl]
    congr 1
    omega
   have h00:=hat 0 (by omega)
   rw [Nat.add_zero] at h00
   by_cases c1:bt l i=34∨bt l i=92
   · have he:enc l i=[92,UInt8.ofNat (bt l i)]:=by unfold enc;rw [if_pos c1]
     have hone:unit l i=1:=by unfold unit;rw [rune_one (by omega)];rfl
     have h0:bt m p=92:=by rw [h00,he];rfl
     have h1:bt m (p+1)=bt l i:=by
      rw [hat 1 (by rw [he];simp),he]
      show (UInt8.ofNat (bt l i)).toNat=_
      rw [UInt8.toNat_ofNat',Nat.mod_eq_of_lt (bt_lt l i)]
     refine step [UInt8.ofNat (bt l i)] ?_ (by rw [hone,take_byte hlt]) (by omega)
     unfold un
     rw [if_pos h0]
     have hes:esc m p=.ok (bt l i) 2:=by
      unfold esc
      rw [he] at hrl
      simp at hrl
      rw [if_neg (by omega),h1,if_pos c1]
     rw [hes,he]
     rfl
   by_cases c2:safe l i=true
   · have he:enc l i=(l.drop i).take (unit l i):=by unfold enc;rw [if_neg c1,if_pos c2]
     have hel:(enc l i).length=unit l i:=by rw [he,List.length_take,List.length_drop];omega
     have hb:∀j,j<unit l i→bt m (p+j)=bt l (i+j):=fun j hj=>by
      rw [hat j (by omega),he,bt_take hj,←bt_drop]
     have hb0:=hb 0 (by omega)
     rw [Nat.add_zero,Nat.add_zero] at hb0
     have c2':=c2
     unfold safe at c2'
     simp only [Bool.and_eq_true,decide_eq_true_eq] at c2'
     have hru:rune l i=unit l i:=by unfold unit;rw [if_neg (by omega)]
     have hrm:rune m p=unit l i:=by
      have hr:=hru
      unfold rune at hr ⊢
      rw [hb0]
      exact runeN_same hr (by omega) (by omega) (fun h=>hb 1 h) (fun h=>hb 2 h) (fun h=>hb 3 h)
     have hum:unit m p=unit l i:=by unfold unit;rw [hrm,hru,if_neg (by omega)]
     have hsm:safe m p=true:=by
      unfold safe
      simp only [Bool.and_eq_true,decide_eq_true_eq]
      rw [hrm,hb0]
      exact ⟨⟨by omega,c2'.1.2⟩,c2'.2⟩
     refine step ((m.drop p).take (unit l i)) ?_ ?_ (by rw [hb0];omega)
     · unfold un
       rw [if_neg (by rw [hb0];omega),if_pos hsm,hum,hel]
     · rw [hd,hre,he,List.append_assoc,List.take_append_of_le_length (by rw [List.length_take,List.length_drop];omega),List.take_take,Nat.min_self]
   · have he:enc l i=[92,120,hexd (bt l i / 16),hexd (bt l i % 16)]:=by unfold enc;rw [if_neg c1,if_neg c2]
     have hlt256:=bt_lt l i
     have hone:unit l i=1:=by
      unfold unit
      by_cases d:rune l i=0
      · rw [if_pos d]
      · rw [if_neg d]
        rcases Nat.lt_or_ge (bt l i) 128 with h | h
        · exact rune_one h
        · exfalso
          apply c2
          unfold safe
          simp only [Bool.and_eq_true,decide_eq_true_eq]
          omega
     have h0:bt m p=92:=by rw [h00,he];rfl
     have h1:bt m (p+1)=120:=by rw [hat 1 (by rw [he];simp),he];rfl
     have h2:bt m (p+2)=(hexd (bt l i / 16)).toNat:=by rw [hat 2 (by rw [he];simp),he];rfl
     have h3:bt m (p+3)=(hexd (bt l i % 16)).toNat:=by rw [hat 3 (by rw [he];simp),he];rfl
     refine step [UInt8.ofNat (bt l i)] ?_ (by rw [hone,take_byte hlt]) (by omega)
     unfold un
     rw [if_pos h0]
     have hes:esc m p=.ok (bt l i) 4:=by
      unfold esc
      rw [he] at hrl
      simp at hrl
      rw [if_neg (by omega),if_neg (by omega),if_neg (by omega),if_neg (by omega),h2,dig_hexd _ (by omega),if_neg (by omega),if_neg (by omega),h3,dig_hexd _ (by omega),if_neg (by omega)]
      congr 1
      omega
     rw [hes,he]
     rfl
theorem read_back (pre l post:List UInt8):read (pre++text l++post) pre.length=.ok l (pre.length+(text l).length):=by
 have hl:(pre++text l++post).length=pre.length+(rest l 0).length+2+post.length:=by rw [text_eq];simp;omega
 have hd:(pre++text l++post).drop pre.length=34::(rest l 0++34::post):=by rw [List.append_assoc,List.drop_left,text_eq];simp
 have hb:bt (pre++text l++post) pre.length=34:=by
  have:=bt_drop (pre++text l++post) pre.length 0
  rw [hd] at this
  exact this
 have hd2:(pre++text l++post).drop (pre.length+1)=rest l 0++34::post:=by rw [←List.drop_drop,hd];rfl
 unfold read
 rw [if_neg (by omega),if_neg (by omega),Int.toNat_natCast,if_neg (by omega)]
 have:=go_back l (pre++text l++post) post l.length 0 (pre.length+1) [] (by omega) (by omega) (by simp) hd2
 unfold go at this
 rw [this,text_eq]
 simp
 omega
end Qu
end Go.Proofs.YtpplemjjeefpdaaGreatDoor
namespace Go.Proofs.YtpplemjjeefpdaaGreatDoor
open Go
namespace Mt
theorem ofL_list (l:List UInt8):(ofL l).data.toList=l:=by simp [ofL]
theorem ofL_self (s:ByteArray):ofL s.data.toList=s:=by cases s;simp [ofL]
def hits (n:Node) (l:List UInt8):Bool:=Rx.right n&&Mx.sp l n (Mx.single 0) l.length
def test (m:M) (v:ByteArray):Bool:=
 if right m≠0 then false else if m.op=1 then decide (v.data.toList=m.val.data.toList) else if m.op=2 then !decide (v.data.toList=m.val.data.toList)
 else if m.op=3 then hits (Rx.parse m.val.data.toList).1 v.data.toList else !hits (Rx.parse m.val.data.toList).1 v.data.toList
def get:List L→ByteArray→ByteArray
 | [],_=>⟨#[]⟩
 | x::r,n=>if x.name.data.toList=n.data.toList then x.val else get r n
def holds (m:M) (l:List L):Bool:=test m (get l m.name)
theorem right_ok {m:M} (h:right m=0):Nm.labelB m.name.data.toList=true∧1≤m.op∧m.op≤4:=by
 unfold right at h
 by_cases c:Nm.labelB m.name.data.toList=false
 · rw [if_pos c] at h;omega
 · rw [if_neg c] at h
   by_cases d:m.op<1∨4<m.op
   · rw [if_pos d] at h;omega
   · exact ⟨by simpa using c,by omega,by omega⟩
theorem take_back {m:M} (h:right m=0) (pre post:List UInt8):take (pre++text m++post) pre.length=.ok m (pre.length+(text m).length):=by
 obtain ⟨hl,h1,h4⟩:=right_ok h
 have hq:Qu.text m.val.data.toList=34::(Qu.rest m.val.data.toList 0++[34]):=rfl
 have hsl:1≤(sgn m.op).length:=by unfold sgn;(repeat' split)<;>simp
 have hd:(pre++text m++post).drop pre.length=m.name.data.toList++(sgn m.op++(Qu.text m.val.data.toList++post)):=by
  rw [List.append_assoc,List.drop_left];simp [text]
 have hrun:Nm.run Nm.signB true ((pre++text m++post).drop pre.length)=m.name.data.toList.length:=by
  rw [hd]
  refine Nm.run_label hl _ (fun c hc=>?_)
  have:c=61∨c=33:=by
   have h14:m.op=1∨m.op=2∨m.op=3∨m.op=4:=by omega
   unfold sgn at hc
   rcases h14 with e | e | e | e<;>(rw [e] at hc;simp at hc)<;>first | exact Or.inl hc.symm | exact Or.inr hc.symm
  rcases this with rfl | rfl<;>decide
 have hlen:=hl
 simp only [Nm.labelB,Bool.and_eq_true,decide_eq_true_eq] at hlen
 have hk:∀j,Qu.bt (pre++text m++post) (pre.length+m.name.data.toList.length+j)=Qu.bt (sgn m.op++(34::(Qu.rest m.val.data.toList 0++[34]++post))) j:=fun j=>by
  rw [Qu.bt_drop,←List.drop_drop,hd,List.drop_left,hq]
  simp
 have h0:=hk 0
 have hk1:=hk 1
 rw [Nat.add_zero] at h0
 have hop:(opAt (pre++text m++post) (pre.length+m.name.data.toList.length):Int)=m.op:=by
  have h14:m.op=1∨m.op=2∨m.op=3∨m.op=4:=by omega
  unfold opAt
  rw [h0,hk1]
  rcases h14 with e | e | e | e<;>(rw [e];rfl)
 have hrd:Qu.read (pre++text m++post) ((pre.length+m.name.data.toList.length+(sgn m.op).length:Nat):Int)=.ok m.val.data.toList (pre.length+m.name.data.toList.length+(sgn m.op).length+(Qu.text m.val.data.toList).length):=by
  have:=Qu.read_back (pre++m.name.data.toList++sgn m.op) m.val.data.toList post
  have e1:pre++m.name.data.toList++sgn m.op++Qu.text m.val.data.toList++post=pre++text m++post:=by simp [text]
  have e2:(pre++m.name.data.toList++sgn m.op).length=pre.length+m.name.data.toList.length+(sgn m.op).length:=by simp;omega
  rw [e1,e2] at this
  exact this
 have htl:(pre++text m++post).length=pre.length+(text m).length+post.length:=by simp;omega
 have htx:(text m).length=m.name.data.toList.length+(sgn m.op).length+(Qu.text m.val.data.toList).length:=by simp [text];omega
 have hm:(⟨ofL (((pre++text m++post).drop pre.length).take m.name.data.toList.length),opAt (pre++text m++post) (pre.length+m.name.data.toList.length),ofL m.val.data.toList⟩:M)=m:=by
  rw [hop,hd,List.take_left,ofL_self,ofL_self]
 have ho1:opAt (pre++text m++post) (pre.length+m.name.data.toList.length)≠0:=by omega
 have hex:(↑(pre.length+m.name.data.toList.length+(sgn (↑(opAt (pre++text m++post) (pre.length+m.name.data.toList.length)))).length):Int)=((pre.length+m.name.data.toList.length+(sgn m.op).length:Nat):Int):=by rw [hop]
 unfold take
 rw [if_neg (by omega),if_neg (by omega),Int.toNat_natCast,hrun,if_neg (by omega),if_neg ho1,hex,hrd]
 dsimp only
 rw [hm,if_neg (by rw [h];simp),htx]
 congr 1
 omega
end Mt
end Go.Proofs.YtpplemjjeefpdaaGreatDoor
namespace Go.Proofs.YtpplemjjeefpdaaGreatDoor
open Go
namespace Sl
open Mt (M)
def firstBad:List M→Nat→Int × Nat
 | [],_=>(0,0)
 | m::r,i=>if Mt.right m≠0 then (Mt.right m,i) else firstBad r (i+1)
def right (l:List M):Int × Nat:=if 64<l.length then (3,64) else firstBad l 0
def holds (l:List M) (m:List Mt.L):Bool:=l.all fun x=>Mt.holds x m
def body:List M→List UInt8
 | []=>[]
 | m::r=>Mt.text m++tl r
def text (l:List M):List UInt8:=123::(body l++[125])
theorem bt_in {s:List UInt8} {p:Nat} (h:Qu.bt s p≠0):p<s.length:=Nat.lt_of_not_le fun g=>h (by unfold Qu.bt;rw [List.getElem?_eq_none g])
theorem body_end (l:List UInt8):∀(f:Nat) (out:List UInt8) (i p:Nat) (t:List UInt8),Qu.body l f out i=.ok t p→i<p∧p≤l.length
 | 0,out,i,p,t,h=>by unfold Qu.body at h;cases h
 | f + 1,out,i,p,t,h=>by
   unfold Qu.body at h
   split at h
   · rename_i c
     split at h
     · cases h;omega
     · cases hu:Qu.un l i with
       | ok t' n=>
         rw [hu] at h
         have:=Qu.un_pos c hu
         have:=body_end l f _ _ _ _ h
         omega
       | bad e' p'=>rw [hu] at h;cases h
   · cases h
theorem read_end {l:List UInt8} {a:Int} {t:List UInt8} {p:Nat} (h:Qu.read l a=.ok t p):a<p∧p≤l.length:=by
 unfold Qu.read at h
 split at h
 · cases h
 · split at h
   · cases h
   · split at h
     · cases h
     · have:=body_end _ _ _ _ _ _ h
       omega
theorem take_end {s:List UInt8} {i:Nat} {m:M} {p:Nat} (h:Mt.take s i=.ok m p):i<p∧p≤s.length:=by
 unfold Mt.take at h
 split at h
 · cases h
 · split at h
   · cases h
   · split at h
     · cases h
     · split at h
       · cases h
       · split at h
         · cases h
         · rename_i hr
           split at h
           · cases h
           · cases h
             have:=read_end hr
             omega
end Sl
end Go.Proofs.YtpplemjjeefpdaaGreatDoor
namespace Go.Proofs.YtpplemjjeefpdaaGreatDoor
open Go Go.RowKit
open Ab Sh
namespace Gn
def l23_SelectorKeeps_s (R:RF) (r:Bool):V:=fB r
def l23_SelectorKeeps_l1 (N:Nat) (p0:List GMatcher) (p1:List GLabel) (p2:ByteArray) (l3:List GMatcher) (l4:List ByteArray):Nat→Bool→Int→Int→Option Bool
| 0,_,_,_=>none
| m+1,v5,v6,v7=>
 cond (cm .lss v7 (ll (rw _ cS l4)))
 ((at_ l4 v7).bind fun r8=>
 (at_ l4 v7).bind fun r9=>
 (selector_Of_g p0 r9).bind fun l10=>
 (cond (v5)
 ((selector_Holds_g N l10 p1).bind fun a11=>
 some a11)
 (some false):Option Bool).bind fun j2=>
 (l23_SelectorKeeps_l1 N p0 p1 p2 l3 l4 m) j2 (ar .add .i64 v6 (ll (rw _ cMatcher l10))) (ar .add .i64 v7 1))
 (((selector_Holds_g N l3 p1).bind fun a12=>
 (selector_Holds_g N p0 p1).bind fun a13=>
 cond (!(conj [a12==a13]))
 (some true)
 ((selector_Holds_g N p0 p1).bind fun a14=>
 cond (!(conj [v5==a14]))
 (some true)
 (cond (cm .neq v6 (ll (rw _ cMatcher p0)))
 (some true)
 (some (cm .gtr (ll (rw _ cMatcher l3)) (ll (rw _ cMatcher p0)))))):Option Bool).bind fun j3=>
 cond (j3)
 (some false)
 ((selector_Right_g N p0).bind fun a15=>
 cond (cm .neq a15.E 0)
 ((l23_worksW_g N).bind fun a16=>
 some a16)
 ((selector_Text_g N p0).bind fun a17=>
 cond (ctB p2 a17) (cond (ctB (ct p2 a17) p2) ((selector_Take_g N (ct (ct p2 a17) p2) (sl p2)).bind fun a18=>
 ((porterbase_SameSel_g N a18.1 p0).bind fun a19=>
 cond (a19)
 (cond (cm .eql a18.2.1 (ar .add .i64 (sl p2) (sl a17)))
 (cond (conj [cm .eql a18.2.2.E 0,cm .eql a18.2.2.At 0])
 ((l23_worksW_g N).bind fun a20=>
 some a20)
 (some false))
 (some false))
 (some false):Option Bool).bind fun j4=>
 some j4) none) none)))
def l23_SelectorKeeps_g (N:Nat) (p0:List GMatcher) (p1:List GLabel) (p2:ByteArray):Option Bool:=
 ((r23_Great_g N p0 p1).bind fun a1=>
 cond (a1)
 (some true)
 (some (cm .gtr (sl p2) 30)):Option Bool).bind fun j1=>
 cond (j1)
 ((l23_worksW_g N).bind fun a2=>
 some a2)
 ((selector_Order_g N p0).bind fun l3=>
 (selector_NamesW_g N p0).bind fun l4=>
 l23_SelectorKeeps_l1 N p0 p1 p2 l3 l4 N true 0 0)
end Gn
end Go.Proofs.YtpplemjjeefpdaaGreatDoor
namespace Go.Proofs.YtpplemjjeefpdaaGreatDoor
open Go
open Sh Gn
namespace Pl
section
variable {s:ByteArray} {i:Nat}
theorem sa_bt:sa s (i:Int)=(Qu.bt s.data.toList i:Int):=by
 show ((s.data.getD _ 0).toNat:Int)=_
 unfold Qu.bt
 rw [Int.toNat_natCast,Array.getD_eq_getD_getElem?,Array.getElem?_toList]
 cases s.data[i]?<;>rfl
theorem get_bt:(s.get! i).toNat=Qu.bt s.data.toList i:=by
 unfold Qu.bt
 rw [Array.getElem?_toList]
 show (s.data[i]!).toNat=_
 rw [getElem!_def]
 cases s.data[i]?<;>rfl
theorem ss_list {j:Nat} (h:i≤j) (hj:j≤s.size):(ss s i j).data.toList=(s.data.toList.drop i).take (j-i):=by
 show (s.extract _ _).data.toList=_
 rw [Int.toNat_natCast,Int.toNat_natCast,ByteArray.data_extract,Array.toList_extract,List.extract]
theorem ss_end (hj:i≤s.size):(ss s i (sl s)).data.toList=s.data.toList.drop i:=by
 rw [sl_eq,ss_list hj (Nat.le_refl _),List.take_of_length_le (by rw [List.length_drop,size_list];exact Nat.le_refl _)]
theorem size_end (hj:i≤s.size):(ss s i (sl s)).size=s.size-i:=by
 rw [←size_list,ss_end hj,List.length_drop,size_list]
theorem ssin_end (hj:i≤s.size):ssinB s i (sl s)=true:=by simp [ssinB,sl_eq];omega
theorem ssin_nat {j:Nat} (h:i≤j) (hj:j≤s.size):ssinB s i j=true:=by simp [ssinB];omega
theorem dec_cp (h:i<s.size):utf8_Decode_g (ss s i (sl s))=some ((Qu.cp s.data.toList i:Int),(Qu.unit s.data.toList i:Int)):=by
 have hz:=size_end (s:=s) (i:=i) (by omega)
 have hb:∀j,(((ss s i (sl s))).get! j).toNat=Qu.bt s.data.toList (i+j):=fun j=>by rw [get_bt,ss_end (by omega),Qu.bt_drop]
 have e:Lib.decodeGo (ss s i (sl s))=(Qu.cp s.data.toList i,Qu.unit s.data.toList i):=by
  unfold Lib.decodeGo
  rw [if_neg (by omega),Lib.decode_at,hb,hb,hb,hb,hz,Nat.sub_zero,←Qu.cp_unit,size_list]
  rfl
 unfold utf8_Decode_g
 rw [e]
theorem index_dig:∀c:Fin 256,Lib.indexByte [48,49,50,51,52,53,54,55,56,57,97,98,99,100,101,102] (UInt8.ofNat c.val)=if Qu.dig c.val=16 then-1 else (Qu.dig c.val:Int):=by decide+kernel
theorem index_p {c:Nat} (h:c<256):strings_IndexByte_g (ByteArray.mk #[48,49,50,51,52,53,54,55,56,57,97,98,99,100,101,102]) (c:Int)=some (if Qu.dig c=16 then-1 else (Qu.dig c:Int)):=by
 unfold strings_IndexByte_g
 rw [←index_dig ⟨c,h⟩]
 rfl
theorem dig_le (c:Nat):Qu.dig c≤16:=by unfold Qu.dig;(repeat' split)<;>omega
def escI (e:Qu.Esc):Int × Int × Int:=match e with | .ok b n=>((b:Int),(n:Int),0) | .bad e=>(0,0,(e:Int))
theorem qesc_p {N:Nat} (hN:20≤N) (hs:s.size≤400000) (hi:i≤s.size):quote_escape_g N (ss s i (sl s))=some (escI (Qu.esc s.data.toList i)):=by
 obtain ⟨N,rfl⟩:∃M,N=M+3:=⟨N-3,by omega⟩
 have hz:=size_end (s:=s) (i:=i) hi
 have hb:∀j:Nat,sa (ss s i (sl s)) (j:Int)=(Qu.bt s.data.toList (i+j):Int):=fun j=>by rw [sa_bt,ss_end hi,Qu.bt_drop]
 have h1:=hb 1
 have h2:=hb 2
 have h3:=hb 3
 have hin:∀j:Nat,i+j<s.size→sinB (ss s i (sl s)) (j:Int)=true:=fun j hj=>sin_in (by omega)
 unfold quote_escape_g Qu.esc
 simp only [cm_lss,cm_eql,cm_neq,cond_not,cond_dec,sl_eq]
 rw [show ((ss s i s.size).size)=s.size-i from hz,size_list]
 by_cases c:s.size<i+2
 · have c':((s.size-i:Nat):Int)<2:=by omega
   simp only [c,c',if_true];rfl
 have c':¬((s.size-i:Nat):Int)<2:=by omega
 simp only [c,c',if_false]
 have i1:sinB (ss s i (s.size:Int)) 1=true:=hin 1 (by omega)
 have h1:sa (ss s i (s.size:Int)) 1=(Qu.bt s.data.toList (i+1):Int):=h1
 simp only [i1,h1,_root_.cond_true]
 have b1:=Qu.bt_lt s.data.toList (i+1)
 have b2:=Qu.bt_lt s.data.toList (i+2)
 have b3:=Qu.bt_lt s.data.toList (i+3)
 by_cases c1:Qu.bt s.data.toList (i+1)=34
 · simp only [c1,true_or,if_true,Option.bind_some,_root_.cond_true];simp;rfl
 by_cases c2:Qu.bt s.data.toList (i+1)=92
 · simp only [c2,or_true,if_true];simp;rfl
 have c1':¬(Qu.bt s.data.toList (i+1):Int)=34:=by omega
 have c2':¬(Qu.bt s.data.toList (i+1):Int)=92:=by omega
 simp only [c1,c2,c1',c2',or_false,if_false,Option.bind_some,decide_false,cond_false]
 by_cases c3:Qu.bt s.data.toList (i+1)=120
 · have c3':(Qu.bt s.data.toList (i+1):Int)=120:=by omega
   simp only [c3',if_true,c3,ne_eq,not_true_eq_false,if_false]
   unfold quote_escape_l1
   simp only [cm_lss,cm_geq,cond_dec,sl_eq]
   simp only [show ((2:Int)<4) from by decide,if_true,show ((ss s i s.size).size)=s.size-i from hz]
   by_cases d:s.size<i+3
   · have d':((s.size-i:Nat):Int)≤2:=by omega
     simp only [d,d',if_true];rfl
   have d':¬((s.size-i:Nat):Int)≤2:=by omega
   simp only [d,d',if_false]
   have i2:sinB (ss s i (s.size:Int)) 2=true:=hin 2 (by omega)
   have h2:sa (ss s i (s.size:Int)) 2=(Qu.bt s.data.toList (i+2):Int):=h2
   simp only [i2,h2,_root_.cond_true,index_p b2,Option.bind_some]
   have g2:=dig_le (Qu.bt s.data.toList (i+2))
   by_cases d2:Qu.dig (Qu.bt s.data.toList (i+2))=16
   · simp only [d2,if_true];rfl
   have d2':¬(Qu.dig (Qu.bt s.data.toList (i+2)):Int)<0:=by omega
   simp only [d2,d2',if_false]
   have e1:ar .add .i64 (ar .mul .i64 16 0) (Qu.dig (Qu.bt s.data.toList (i+2)):Int)=(Qu.dig (Qu.bt s.data.toList (i+2)):Int):=by
    rw [ar_mul (by decide) (by decide),ar_add (by omega) (by omega)];omega
   have e2:ar .add .i64 (2:Int) 1=3:=by rw [ar_add (by decide) (by decide)];rfl
   rw [e1,e2]
   unfold quote_escape_l1
   simp only [cm_lss,cm_geq,cond_dec,sl_eq]
   simp only [show ((3:Int)<4) from by decide,if_true,show ((ss s i s.size).size)=s.size-i from hz]
   by_cases d:s.size<i+4
   · have d':((s.size-i:Nat):Int)≤3:=by omega
     simp only [d,d',if_true];rfl
   have d':¬((s.size-i:Nat):Int)≤3:=by omega
   simp only [d,d',if_false]
   have i3:sinB (ss s i (s.size:Int)) 3=true:=hin 3 (by omega)
   have h3:sa (ss s i (s.size:Int)) 3=(Qu.bt s.data.toList (i+3):Int):=h3
   simp only [i3,h3,_root_.cond_true,index_p b3,Option.bind_some]
   have g3:=dig_le (Qu.bt s.data.toList (i+3))
   by_cases d3:Qu.dig (Qu.bt s.data.toList (i+3))=16
   · simp only [d3,if_true];rfl
   have d3':¬(Qu.dig (Qu.bt s.data.toList (i+3)):Int)<0:=by omega
   simp only [d3,d3',if_false]
   have e3:ar .add .i64 (ar .mul .i64 16 (Qu.dig (Qu.bt s.data.toList (i+2)):Int)) (Qu.dig (Qu.bt s.data.toList (i+3)):Int)=((16*Qu.dig (Qu.bt s.data.toList (i+2))+Qu.dig (Qu.bt s.data.toList (i+3)):Nat):Int):=by
    rw [ar_mul (by omega) (by omega),ar_add (by omega) (by omega)];omega
   have e4:ar .add .i64 (3:Int) 1=4:=by rw [ar_add (by decide) (by decide)];rfl
   rw [e3,e4]
   unfold quote_escape_l1
   simp only [cm_lss,cond_dec]
   simp only [show ¬((4:Int)<4) from by decide,if_false]
   show some (cv .u8 _,(4:Int),(0:Int))=some (((16*_+_:Nat):Int),(4:Int),(0:Int))
   congr 2
   show IntKind.u8.wrap _=_
   rw [IntKind.wrap_u8];omega
 · have c3':¬(Qu.bt s.data.toList (i+1):Int)=120:=by omega
   simp only [c3',if_false,ne_eq,c3,not_false_eq_true,if_true]
   rfl
theorem plain_p:quote_plain_g (Qu.cp s.data.toList i:Int) (Qu.unit s.data.toList i:Int)=some (Qu.safe s.data.toList i):=by
 have h:=Qu.plain_safe s.data.toList i
 unfold quote_plain_g
 simp only [cm_geq,cm_neq,cm_gtr,cond_not,cond_dec,bind_self]
 cases g:Qu.safe s.data.toList i with
 | true=>
   obtain ⟨h1,h2,h3⟩:=h.2 g
   rw [if_pos (by omega),if_neg (by omega)]
   by_cases c:Qu.cp s.data.toList i=65533
   · rw [if_pos (by omega),decide_eq_true (by omega)]
   · rw [if_neg (by omega)]
 | false=>
   have hn:¬(32≤Qu.cp s.data.toList i∧Qu.cp s.data.toList i≠127∧(Qu.cp s.data.toList i≠65533∨1<Qu.unit s.data.toList i)):=fun e=>by rw [h.1 e] at g;cases g
   by_cases c1:32≤Qu.cp s.data.toList i
   · rw [if_pos (by omega)]
     by_cases c2:Qu.cp s.data.toList i=127
     · rw [if_pos (by omega)]
     · rw [if_neg (by omega),if_pos (by omega),decide_eq_false (by omega)]
   · rw [if_neg (by omega)]
end
end Pl
end Go.Proofs.YtpplemjjeefpdaaGreatDoor
namespace Go.Proofs.YtpplemjjeefpdaaGreatDoor
open Go
open Sh Gn
namespace Pl
theorem ite_gen {p q r:Prop} [Decidable p] [Decidable q] [Decidable r]:(if p then some (decide q) else some (decide r))=some (decide ((p∧q)∨(¬ p∧r))):=by by_cases p<;>by_cases q<;>by_cases r<;>simp_all
theorem not_dec {p:Prop} [Decidable p]:(!decide p)=decide (¬ p):=by by_cases p<;>simp_all
theorem str_map (l:List UInt8):strB (l.map fun b=>(b.toNat:Int))=some ⟨l.toArray⟩:=by
 have h1:bokB (l.map fun b=>(b.toNat:Int))=true:=by
  unfold bokB
  rw [List.all_eq_true]
  intro x hx
  obtain ⟨b,_,rfl⟩:=List.mem_map.1 hx
  have:=b.toNat_lt
  simp;omega
 unfold strB
 rw [if_pos h1]
 unfold ofBytes
 rw [List.map_map]
 congr 2
 conv=>rhs;rw [←List.map_id l]
 congr 1
 apply List.map_congr_left
 intro b _
 show UInt8.ofNat ((b.toNat:Int)).toNat=b
 rw [Int.toNat_natCast,UInt8.ofNat_toNat]
section
variable {s:ByteArray} {i:Nat}
theorem trail_from {p n:Int} (hs:s.size≤400000):∀(m q r:Nat),r<m→q+r≤s.size→ar .add .i64 p n=((q+r:Nat):Int)→r10_trail_l1 s p n m q=some (decide (trailB s.data.toList q r)):=by
 intro m
 induction m with
 | zero=>intro q r h;omega
 | succ m ih=>
   intro q r h1 h2 h3
   unfold r10_trail_l1
   rw [h3,cm_lss,cond_dec]
   cases r with
   | zero=>rw [if_neg (by omega)];rfl
   | succ r=>
     rw [if_pos (by omega),sin_in (by omega),inc1 (by omega)]
     simp only [_root_.cond_true,cm_lss,cm_gtr,cond_dec,sa_bt,ite_or,Option.bind_some]
     rw [ih (q+1) r (by omega) (by omega) (by rw [h3];congr 1;omega)]
     by_cases g:128≤Qu.bt s.data.toList q∧Qu.bt s.data.toList q≤191
     · rw [if_neg (by omega)]
       congr 1
       exact decide_eq_decide.2 ⟨fun h=>⟨g,h⟩,fun h=>h.2⟩
     · rw [if_pos (by omega)]
       congr 1
       exact (decide_eq_false fun h=>g h.1).symm
theorem trail_p {N p n:Nat} (hN:20≤N) (hn:n≤3) (hs:s.size≤400000) (hp:p≤s.size):r10_trail_g N s p n=some (decide (n≤s.size-p∧trailB s.data.toList p n)):=by
 unfold r10_trail_g
 rw [cm_gtr,cond_dec,sl_eq,ar_sub (by omega) (by omega)]
 by_cases c:n≤s.size-p
 · rw [if_neg (by omega),trail_from hs N p n (by omega) (by omega) (by rw [ar_add (by omega) (by omega)];omega)]
   congr 1
   exact decide_eq_decide.2 ⟨fun h=>⟨c,h⟩,fun h=>h.2⟩
 · rw [if_pos (by omega)]
   congr 1
   exact (decide_eq_false fun h=>c h.1).symm
theorem rrune_p {N:Nat} (hN:20≤N) (hs:s.size≤400000) (hi:i<s.size):r10_Rune_g N s i=some (Qu.rune s.data.toList i:Int):=by
 unfold r10_Rune_g Qu.rune
 have b0:=Qu.bt_lt s.data.toList i
 have b1:=Qu.bt_lt s.data.toList (i+1)
 have t1:r10_trail_g N s ((i+1:Nat):Int) 1=some (decide (1≤s.size-(i+1)∧trailB s.data.toList (i+1) 1)):=trail_p (n:=1) hN (by omega) hs (by omega)
 have t2:r10_trail_g N s ((i+1:Nat):Int) 2=some (decide (2≤s.size-(i+1)∧trailB s.data.toList (i+1) 2)):=trail_p (n:=2) hN (by omega) hs (by omega)
 have t3:r10_trail_g N s ((i+1:Nat):Int) 3=some (decide (3≤s.size-(i+1)∧trailB s.data.toList (i+1) 3)):=trail_p (n:=3) hN (by omega) hs (by omega)
 have ej:(cond (cm .lss ((i+1:Nat):Int) (sl s)) (cond (sinB s ((i+1:Nat):Int)) (some (cv .i64 (sa s ((i+1:Nat):Int)))) none) (some 0))=some (Qu.bt s.data.toList (i+1):Int):=by
  rw [cm_lss,cond_dec,sl_eq]
  by_cases c:i+1<s.size
  · rw [if_pos (by omega),sin_in c,_root_.cond_true,sa_bt,cv_i64 (by omega) (by omega)]
  · rw [if_neg (by omega)]
    unfold Qu.bt
    rw [List.getElem?_eq_none (by rw [size_list];omega)];rfl
 have ec:cv .i64 (sa s (i:Int))=(Qu.bt s.data.toList i:Int):=by rw [sa_bt,cv_i64 (by omega) (by omega)]
 rw [inc1 (show i≤100000000 by omega),ej,ec,t1,t2,t3,sin_in hi,size_list]
 simp only [_root_.cond_true,cm_lss,cm_leq,cm_geq,cm_neq,cond_dec,Option.bind_some,not_dec,ite_and,ite_or,ite_gen,bind_self,trailB,and_true]
 generalize Qu.bt s.data.toList i=x0 at *
 generalize Qu.bt s.data.toList (i+1)=x1 at *
 have e2:i+1+1=i+2:=rfl
 have e3:i+1+1+1=i+3:=rfl
 rw [e3,e2]
 generalize Qu.bt s.data.toList (i+2)=x2
 generalize Qu.bt s.data.toList (i+3)=x3
 unfold Qu.runeN
 by_cases c1:x0<128
 · rw [if_pos (by omega),if_pos c1];rfl
 rw [if_neg (by omega),if_neg c1]
 by_cases c2:194≤x0∧x0≤223∧1<s.size-i∧128≤x1∧x1≤191
 · rw [if_pos (by omega),if_pos c2];rfl
 rw [if_neg (by omega),if_neg c2]
 by_cases c3:224≤x0∧x0≤239∧(2<s.size-i∧128≤x1∧x1≤191∧128≤x2∧x2≤191)∧(x0≠224∨160≤x1)∧(x0≠237∨x1<160)
 · rw [if_pos (by omega),if_pos c3];rfl
 rw [if_neg (by omega),if_neg c3]
 by_cases c4:240≤x0∧x0≤244∧(3<s.size-i∧128≤x1∧x1≤191∧128≤x2∧x2≤191∧128≤x3∧x3≤191)∧(x0≠240∨144≤x1)∧(x0≠244∨x1<144)
 · rw [if_pos (by omega),if_pos c4];rfl
 rw [if_neg (by omega),if_neg c4];rfl
theorem rsafe_p {N:Nat} (hN:20≤N) (hs:s.size≤400000) (hi:i<s.size):r10_safe_g N s i=some (Qu.safe s.data.toList i):=by
 unfold r10_safe_g Qu.safe
 rw [rrune_p hN hs hi,sin_in hi,sa_bt]
 simp only [_root_.cond_true,cm_gtr,cm_geq,cm_neq,not_dec,cond_dec,Option.bind_some,ite_and,bind_self]
 congr 1
 rw [←Bool.decide_and,←Bool.decide_and]
 exact decide_eq_decide.2 (by omega)
end
end Pl
end Go.Proofs.YtpplemjjeefpdaaGreatDoor
namespace Go.Proofs.YtpplemjjeefpdaaGreatDoor
open Go
open Sh Gn
namespace Pl
def gotV (g:Qu.Got):ByteArray × Int × GFault:=match g with | .ok t p=>(⟨t.toArray⟩,(p:Int),⟨0,0⟩) | .bad e p=>(ByteArray.empty,0,⟨(e:Int),(p:Int)⟩)
def ints (l:List UInt8):List Int:=l.map fun b=>(b.toNat:Int)
theorem esc_bad {l:List UInt8} {i e:Nat} (h:Qu.esc l i=.bad e):e=1∨e=2:=by
 unfold Qu.esc at h
 repeat' split at h
 all_goals first | cases h | skip
 all_goals first | exact .inl rfl | exact .inr rfl
section
variable {s:ByteArray}
theorem qread_from {N:Nat} (hN:20≤N) (hs:s.size≤400000):∀(m i:Nat) (out:List UInt8),i≤s.size→s.size<i+m→out.length≤i→quote_Read_l1 N s m i (ints out)=some (gotV (Qu.go s.data.toList out i)):=by
 intro m
 induction m with
 | zero=>intro i out h1 h2;omega
 | succ m ih=>
   intro i out h1 h2 h3
   unfold quote_Read_l1
   rw [cm_lss,cond_dec,sl_eq]
   by_cases c:i<s.size
   case neg=>
    rw [if_neg (by omega),Qu.go_end (by rw [size_list];omega),size_list];rfl
   rw [if_pos (by omega),Qu.go_in (by rw [size_list];exact c)]
   have hd:=dec_cp (s:=s) (i:=i) c
   rw [sl_eq] at hd
   have hin:=ssin_end (s:=s) (i:=i) (by omega)
   rw [sl_eq] at hin
   have hb:=Qu.bt_lt s.data.toList i
   have h34:=Qu.cp_small s.data.toList i 34 (by decide)
   have h92:=Qu.cp_small s.data.toList i 92 (by decide)
   have hu:=Qu.unit_le (l:=s.data.toList) (i:=i) (by rw [size_list];exact c)
   have hu1:=Qu.unit_pos s.data.toList i
   rw [size_list] at hu
   have e1:=inc1 (show i≤100000000 by omega)
   have hstr:strB (ints out)=some ⟨out.toArray⟩:=str_map out
   have hesc:=qesc_p (s:=s) (i:=i) hN hs h1
   rw [sl_eq] at hesc
   simp only [hin,_root_.cond_true,hd,Option.bind_some,cm_eql,cm_neq,cond_not,cond_dec,plain_p,hstr,hesc,e1]
   by_cases d1:Qu.bt s.data.toList i=34
   · have d1':(Qu.cp s.data.toList i:Int)=34:=by have:=h34.2 d1;omega
     simp only [d1,d1',if_true];rfl
   have d1':¬(Qu.cp s.data.toList i:Int)=34:=fun e=>d1 (h34.1 (by omega))
   simp only [d1,d1',if_false]
   by_cases d2:Qu.bt s.data.toList i=92
   · have d2':(Qu.cp s.data.toList i:Int)=92:=by have:=h92.2 d2;omega
     simp only [d2',if_true]
     unfold Qu.un
     rw [if_pos d2]
     cases hE:Qu.esc s.data.toList i with
     | ok b n=>
       have hb:=Qu.esc_two hE
       rw [size_list] at hb
       have ea:ar .add .i64 (i:Int) (n:Int)=((i+n:Nat):Int):=by rw [ar_add (by omega) (by omega)];omega
       have z1:¬(0:Int)=1:=by decide
       have eb:((UInt8.ofNat b).toNat:Int)=(b:Int):=by rw [UInt8.toNat_ofNat'];omega
       simp only [escI,z1,if_false,if_true,app_eq (show (ints out).length+[(b:Int)].length≤1000000000 by simp [ints];omega),Option.bind_some,ea]
       have:=ih (i+n) (out++[UInt8.ofNat b]) hb.2.1 (by omega) (by rw [List.length_append,List.length_singleton];omega)
       rw [←this]
       unfold ints
       rw [List.map_append,List.map_cons,List.map_nil,eb]
     | bad e=>
       have he:=esc_bad hE
       simp only [escI]
       rcases he with rfl | rfl
       · show _=some (gotV (.bad 1 s.data.toList.length))
         rw [size_list];rfl
       · rfl
   · have d2':¬(Qu.cp s.data.toList i:Int)=92:=fun e=>d2 (h92.1 (by omega))
     simp only [d2',if_false]
     unfold Qu.un
     rw [if_neg d2]
     cases g:Qu.safe s.data.toList i with
     | false=>
       simp only [cond_false,Bool.false_eq_true,if_false];rfl
     | true=>
       have ea:ar .add .i64 (i:Int) (Qu.unit s.data.toList i:Int)=((i+Qu.unit s.data.toList i:Nat):Int):=by rw [ar_add (by omega) (by omega)];omega
       have eb:Sh.bytes (ss s (i:Int) ((i+Qu.unit s.data.toList i:Nat):Int))=ints ((s.data.toList.drop i).take (Qu.unit s.data.toList i)):=by
        unfold Sh.bytes ints
        rw [ss_list (by omega) (by omega),Nat.add_sub_cancel_left]
       have hl:((s.data.toList.drop i).take (Qu.unit s.data.toList i)).length=Qu.unit s.data.toList i:=by
        rw [List.length_take,List.length_drop,size_list];omega
       simp only [_root_.cond_true,if_true,ea,ssin_nat (s:=s) (show i≤i+Qu.unit s.data.toList i by omega) hu,eb,app_eq (show (ints out).length+(ints ((s.data.toList.drop i).take (Qu.unit s.data.toList i))).length≤1000000000 by simp only [ints,List.length_map,hl];omega),Option.bind_some]
       have:=ih (i+Qu.unit s.data.toList i) (out++(s.data.toList.drop i).take (Qu.unit s.data.toList i)) hu (by omega) (by rw [List.length_append,hl];omega)
       rw [←this]
       unfold ints
       rw [List.map_append]
theorem qread_p {N:Nat} (hN:800000≤N) (hs:s.size≤400000) (p:Int):quote_Read_g N s p=some (gotV (Qu.read s.data.toList p)):=by
 unfold quote_Read_g Qu.read
 simp only [cm_lss,cm_gtr,cm_eql,cm_neq,cond_not,cond_dec,sl_eq,ite_or,Option.bind_some,size_list]
 by_cases c1:p<0∨(s.size:Int)<p
 · rw [if_pos c1,if_pos c1];rfl
 rw [if_neg c1,if_neg c1]
 obtain ⟨i,rfl⟩:∃i:Nat,p=i:=⟨p.toNat,by omega⟩
 rw [Int.toNat_natCast]
 by_cases c2:(i:Int)=s.size
 · rw [if_pos c2,if_pos c2];rfl
 rw [if_neg c2,if_neg c2,sin_in (by omega),_root_.cond_true,sa_bt]
 by_cases c3:Qu.bt s.data.toList i=34
 · rw [if_pos (by omega),if_neg (by omega),inc1 (by omega),show s.size+1=s.data.toList.length+1 by rw [size_list]]
   exact qread_from (by omega) hs N (i+1) [] (by omega) (by omega) (by simp)
 · rw [if_neg (by omega),if_pos c3];rfl
end
end Pl
end Go.Proofs.YtpplemjjeefpdaaGreatDoor
