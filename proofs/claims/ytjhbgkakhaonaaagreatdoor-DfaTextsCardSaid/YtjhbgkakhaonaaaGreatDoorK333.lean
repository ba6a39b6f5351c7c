/- Texts that the proof leans on. -/
import Derived.Test.YtjhbgkakhaonaaaGreatDoorK332
set_option linter.unusedVariables false
set_option linter.unusedSimpArgs false
set_option maxRecDepth 100000
set_option maxHeartbeats 4000000
namespace Go.Proofs.YtjhbgkakhaonaaaGreatDoor
open Go
open Sh Gn
namespace Dq
def numG {κ:Type} [DecidableEq κ]:List (κ × Int)→List κ→List Int
 | _,[]=>[]
 | m,k::l=>match mfind m k with
   | some n=>n::numG m l
   | none=>(m.length:Int)::numG (m++[(k,(m.length:Int))]) l
section
variable {κ:Type} [DecidableEq κ]
theorem mput_new {k:κ} {n:Int}:∀{m:List (κ × Int)},mfind m k=none→mput m k n=m++[(k,n)]
 | [],_=>rfl
 | (a,x)::r,h=>by
   rw [mfind] at h
   split at h
   · cases h
   · rename_i e
     rw [mput,if_neg e,mput_new h]
     rfl
theorem mfind_add {k j:κ} {n:Int}:∀{m:List (κ × Int)},mfind (m++[(k,n)]) j=(match mfind m j with
 | some x=>some x
 | none=>if k=j then some n else none)
 | []=>by simp [mfind]
 | (a,x)::r=>by
   simp only [List.cons_append,mfind]
   split
   · rfl
   · exact mfind_add
structure Okm (m:List (κ × Int)):Prop where
 lt:∀j n,mfind m j=some n→0≤n∧n<m.length
 inj:∀j j' n,mfind m j=some n→mfind m j'=some n→j=j'
theorem okm_nil:Okm ([]:List (κ × Int)):=⟨(fun j n h=>by cases h),(fun j j' n h=>by cases h)⟩
theorem Okm.add {m:List (κ × Int)} (h:Okm m) {k:κ} (hk:mfind m k=none):Okm (m++[(k,(m.length:Int))]):=by
 have key:∀j n,mfind (m++[(k,(m.length:Int))]) j=some n→(mfind m j=some n∧0≤n∧n<m.length)∨(j=k∧n=m.length):=fun j n hj=>by
  rw [mfind_add] at hj
  split at hj
  · rename_i x hx
    cases hj
    exact .inl ⟨hx,h.lt _ _ hx⟩
  · split at hj
    · rename_i e;cases hj;exact .inr ⟨e.symm,rfl⟩
    · cases hj
 refine ⟨fun j n hj=>?_,fun j j' n h1 h2=>?_⟩
 · simp only [List.length_append,List.length_cons,List.length_nil]
   rcases key j n hj with ⟨-,h1,h2⟩ | ⟨-,rfl⟩<;>omega
 · rcases key j n h1 with ⟨a,-,b⟩ | ⟨rfl,e⟩
   · rcases key j' n h2 with ⟨c,-,d⟩ | ⟨rfl,e⟩
     · exact h.inj _ _ _ a c
     · omega
   · rcases key j' n h2 with ⟨c,-,d⟩ | ⟨rfl,e⟩
     · omega
     · rfl
theorem numG_len:∀{l:List κ} {m:List (κ × Int)},(numG m l).length=l.length
 | [],_=>rfl
 | k::l,m=>by rw [numG];split<;>simp [numG_len]
theorem numG_A:∀{l:List κ} {m:List (κ × Int)} {i:Nat} {k:κ} {n:Int},l[i]?=some k→mfind m k=some n→(numG m l)[i]?=some n
 | [],_,_,_,_,h,_=>by simp at h
 | k0::l,m,0,k,n,h,hm=>by
   simp at h
   subst h
   rw [numG,hm]
   rfl
 | k0::l,m,i+1,k,n,h,hm=>by
   rw [numG]
   split
   · simpa using numG_A (by simpa using h) hm
   · simpa using numG_A (l:=l) (by simpa using h) (show mfind (m++[(k0,(m.length:Int))]) k=some n by rw [mfind_add,hm])
theorem numG_C:∀{l:List κ} {m:List (κ × Int)} {i:Nat} {k:κ} {x:Int},l[i]?=some k→mfind m k=none→(numG m l)[i]?=some x→(m.length:Int)≤x
 | [],_,_,_,_,h,_,_=>by simp at h
 | k0::l,m,0,k,x,h,hm,hx=>by
   simp at h
   subst h
   rw [numG,hm] at hx
   simp at hx
   omega
 | k0::l,m,i+1,k,x,h,hm,hx=>by
   rw [numG] at hx
   split at hx
   · exact numG_C (l:=l) (by simpa using h) hm (by simpa using hx)
   · by_cases e:k0=k
     · have:=numG_A (l:=l) (m:=m++[(k0,(m.length:Int))]) (n:=m.length) (by simpa using h) (by rw [mfind_add,hm];simp [e])
       have hx':(numG (m++[(k0,(m.length:Int))]) l)[i]?=some x:=by simpa using hx
       rw [this] at hx'
       cases hx'
       omega
     · have:=numG_C (l:=l) (m:=m++[(k0,(m.length:Int))]) (by simpa using h) (by rw [mfind_add,hm];simp [e]) (by simpa using hx)
       simp at this
       omega
theorem numG_0:∀{l:List κ} {m:List (κ × Int)} {i:Nat} {x:Int},Okm m→(numG m l)[i]?=some x→0≤x:=fun {l m i x} h hx=>by
 have hi:i<l.length:=by rw [←numG_len (m:=m)];exact (List.getElem?_eq_some_iff.1 hx).1
 have hk:=List.getElem?_eq_getElem hi
 cases hm:mfind m l[i] with
 | some n=>have:=numG_A hk hm;rw [hx] at this;cases this;exact (h.lt _ _ hm).1
 | none=>have:=numG_C hk hm hx;omega
theorem numG_B:∀{l:List κ} {m:List (κ × Int)} {i j:Nat} {k k':κ} {x y:Int},Okm m→i<j→l[i]?=some k→l[j]?=some k'→(numG m l)[i]?=some x→(numG m l)[j]?=some y→(x=y↔k=k')
 | [],_,_,_,_,_,_,_,_,_,h,_,_,_=>by simp at h
 | k0::l,m,i,0,_,_,_,_,_,hij,_,_,_,_=>by omega
 | k0::l,m,0,j+1,k,k',x,y,hok,_,h1,h2,h3,h4=>by
   simp at h1
   subst h1
   have h2':l[j]?=some k':=by simpa using h2
   rw [numG] at h3 h4
   split at h3
   · rename_i n hn
     rw [hn] at h4
     simp at h3
     subst h3
     have h4':(numG m l)[j]?=some y:=by simpa using h4
     constructor
     · intro e
       subst e
       cases hm:mfind m k' with
       | some n'=>have:=numG_A h2' hm;rw [h4'] at this;cases this;exact hok.inj _ _ _ hn hm
       | none=>have:=numG_C h2' hm h4';have:=(hok.lt _ _ hn).2;omega
     · intro e
       subst e
       have:=numG_A h2' hn
       rw [h4'] at this
       cases this
       rfl
   · rename_i hn
     rw [hn] at h4
     simp at h3
     subst h3
     have hok':=hok.add hn
     have hn':mfind (m++[(k0,(m.length:Int))]) k0=some (m.length:Int):=by rw [mfind_add,hn];simp
     have h4':(numG (m++[(k0,(m.length:Int))]) l)[j]?=some y:=by simpa using h4
     constructor
     · intro e
       subst e
       cases hm:mfind (m++[(k0,(m.length:Int))]) k' with
       | some n'=>have:=numG_A h2' hm;rw [h4'] at this;cases this;exact hok'.inj _ _ _ hn' hm
       | none=>have:=numG_C h2' hm h4';simp at this;omega
     · intro e
       subst e
       have:=numG_A h2' hn'
       rw [h4'] at this
       cases this
       rfl
 | k0::l,m,i+1,j+1,k,k',x,y,hok,hij,h1,h2,h3,h4=>by
   rw [numG] at h3 h4
   split at h3
   · rename_i n hn
     rw [hn] at h4
     exact numG_B (l:=l) (i:=i) (j:=j) hok (by omega) (by simpa using h1) (by simpa using h2) (by simpa using h3) (by simpa using h4)
   · rename_i hn
     rw [hn] at h4
     exact numG_B (l:=l) (i:=i) (j:=j) (hok.add hn) (by omega) (by simpa using h1) (by simpa using h2) (by simpa using h3) (by simpa using h4)
theorem numG_D:∀{l:List κ} {m:List (κ × Int)} {i:Nat} {x:Int},Okm m→(numG m l)[i]?=some x→x<m.length∨(∃j,j<i∧(numG m l)[j]?=some x)∨x=cnt m.length ((numG m l).take i)
 | [],_,_,_,_,h=>by simp [numG] at h
 | k0::l,m,0,x,hok,h=>by
   rw [numG] at h
   split at h
   · rename_i n hn
     simp at h
     subst h
     exact .inl (hok.lt _ _ hn).2
   · simp at h
     exact .inr (.inr (by simp [cnt,h]))
 | k0::l,m,i+1,x,hok,h=>by
   rw [numG] at h ⊢
   split at h
   · rename_i n hn
     have hb:=(hok.lt _ _ hn).2
     rcases numG_D (l:=l) (i:=i) hok (by simpa using h) with h1 | ⟨j,h1,h2⟩ | h1
     · exact .inl h1
     · exact .inr (.inl ⟨j+1,by omega,by simpa using h2⟩)
     · refine .inr (.inr ?_)
       rw [List.take_succ_cons,cnt,show max (m.length:Int) (n+1)=m.length by omega]
       exact h1
   · rename_i hn
     rcases numG_D (l:=l) (i:=i) (hok.add hn) (by simpa using h) with h1 | ⟨j,h1,h2⟩ | h1
     · simp at h1
       by_cases e:x=m.length
       · exact .inr (.inl ⟨0,by omega,by simp [e]⟩)
       · exact .inl (by omega)
     · exact .inr (.inl ⟨j+1,by omega,by simpa using h2⟩)
     · refine .inr (.inr ?_)
       rw [List.take_succ_cons,cnt,show max (m.length:Int) ((m.length:Int)+1)=((m++[(k0,(m.length:Int))]).length:Int) by simp;omega]
       exact h1
end
structure Blk (A:List Int):Prop where
 len:A.length=256
 nn:∀(i:Nat) x,A[i]?=some x→0≤x
 ord:∀(i:Nat) x,A[i]?=some x→(∃j,j<i∧A[j]?=some x)∨x=cnt 0 (A.take i)
theorem cnt_ge:∀{l:List Int} {m:Int},m≤cnt m l∧∀x∈l,x+1≤cnt m l
 | [],m=>⟨Int.le_refl _,fun x h=>by cases h⟩
 | k::l,m=>by
   obtain ⟨h1,h2⟩:=cnt_ge (l:=l) (m:=max m (k+1))
   rw [cnt]
   refine ⟨by omega,fun x hx=>?_⟩
   rcases List.mem_cons.1 hx with rfl | hx
   · omega
   · exact h2 x hx
theorem rg_of:∀{l:List Int} {m:Int},0≤m→(∀(i:Nat) x,l[i]?=some x→0≤x∧x≤cnt m (l.take i))→rg m l=true
 | [],_,_,_=>rfl
 | k::l,m,h0,h=>by
   have hk:=h 0 k rfl
   simp only [List.take_zero,cnt] at hk
   rw [rg,if_neg (by omega)]
   have e:max m (k+1)=if k=m then m+1 else m:=by split<;>omega
   refine rg_of (by split<;>omega) fun i x hx=>?_
   have:=h (i+1) x (by simpa using hx)
   rw [List.take_succ_cons,cnt,e] at this
   exact this
theorem Blk.rgt {A:List Int} (h:Blk A):bR A=true:=by
 have:rg 0 A=true:=rg_of (Int.le_refl _) fun i x hx=>⟨h.nn i x hx,by
  rcases h.ord i x hx with ⟨j,h1,h2⟩ | h1
  · have hm:x∈A.take i:=List.mem_of_getElem? (i:=j) (by rw [List.getElem?_take,if_pos h1];exact h2)
    have:=cnt_ge (l:=A.take i) (m:=0)
    have:=this.2 x hm
    omega
  · omega⟩
 simp [bR,this,h.len]
end Dq
end Go.Proofs.YtjhbgkakhaonaaaGreatDoor
namespace Go.Proofs.YtjhbgkakhaonaaaGreatDoor
open Go
open Sh Gn
namespace Dq
def hs (S:CSet) (b:Nat):Bool:=S.has b
theorem has_p {S:CSet} {b:Nat} (h:b<256):charset_Has_g S (cv .u8 (b:Int))=some (hs S b):=by
 have e:cv .u8 (b:Int)=(b:Int):=by
  show IntKind.wrap .u8 (b:Int)=_
  unfold IntKind.wrap
  simp [IntKind.bits,IntKind.signed]
  omega
 rw [e,charset_Has_g,if_pos (by omega),Int.toNat_natCast]
 rfl
def keyP (v:List Int) (S:CSet) (b:Nat):Int × Int:=(v.getD b 0,if hs S b=true then 1 else 0)
def keysP (v:List Int) (S:CSet):List (Int × Int):=(List.range 256).map (keyP v S)
theorem keysP_at {v:List Int} {S:CSet} {i:Nat} (h:i<256):(keysP v S).drop i=keyP v S i::(keysP v S).drop (i+1):=by
 have hl:i<(keysP v S).length:=by simp [keysP,h]
 rw [List.drop_eq_getElem_cons hl]
 simp [keysP]
theorem set_pre {pre:List Int} {i:Nat} {n:Int} (hp:pre.length=i) (hi:i<256):(pre++List.replicate (256-i) (0:Int)).set i n=(pre++[n])++List.replicate (256-(i+1)) 0:=by
 rw [List.set_append_right _ _ (by omega),hp,Nat.sub_self,show 256-i=(256-(i+1))+1 by omega,List.replicate_succ]
 simp
theorem pre_at {pre:List Int} {i:Nat} (hp:pre.length=i) (hi:i<256):∃x,at_ (pre++List.replicate (256-i) (0:Int)) (i:Int)=some x:=by
 obtain ⟨y,h,-⟩:=at_int (l:=pre++List.replicate (256-i) (0:Int)) (x:=(i:Int)) (by omega) (by simp;omega)
 exact ⟨y,h⟩
theorem bof_l3 {k1:Int→List Int→Option (List Int)} {v2:Int} {v3:List Int} {S:CSet} {l5:List Int} (h3:v3.length=256) (h5:l5.length=256) (hv:∀x∈v3,0≤x∧x≤1000):∀(m i:Nat) (pre:List Int) (mp:List ((Int × Int)× Int)),pre.length=i→i≤256→256<i+m→
 Okm mp→mp.length≤i→blocks_Of_l3 k1 v2 v3 S l5 m i (pre++List.replicate (256-i) 0) mp=k1 (ar .add .i64 v2 1) (pre++numG mp ((keysP v3 S).drop i)):=by
 intro m
 induction m with
 | zero=>intro i pre mp h1 h2 h4;omega
 | succ m ih=>
   intro i pre mp h1 h2 h4 hok hml
   rw [blocks_Of_l3]
   simp only [cm_lss,ll_eq,cond_dec]
   by_cases c:i<256
   · have hk:v3.getD i 0=v3[i]'(by omega):=by rw [List.getD_eq_getElem?_getD,List.getElem?_eq_getElem (by omega)];rfl
     have hvi:=hv (v3[i]'(by omega)) (List.getElem_mem _)
     obtain ⟨x0,hx0⟩:=pre_at h1 c
     have step:∀(n:Int) (mp':List ((Int × Int)× Int)),Okm mp'→mp'.length≤i+1→((at_ (pre++List.replicate (256-i) (0:Int)) (i:Int)).bind fun _=>(at_ (pre++List.replicate (256-i) (0:Int)) (i:Int)).bind fun _=>
      put (cI .i64) (pre++List.replicate (256-i) (0:Int)) (i:Int) n fun l16=>blocks_Of_l3 k1 v2 v3 S l5 m (ar .add .i64 (i:Int) 1) l16 mp')=k1 (ar .add .i64 v2 1) (pre++(n::numG mp' ((keysP v3 S).drop (i+1)))):=fun n mp' ho hl=>by
      rw [hx0]
      simp only [Option.bind_some,put,Int.toNat_natCast,inc1 (show i≤100000000 by omega)]
      rw [set_pre h1 c,ih (i+1) (pre++[n]) mp' (by simp [h1]) (by omega) (by omega) ho hl,List.append_assoc]
      rfl
     rw [if_pos (by omega),has_p c,Option.bind_some,at_in (l:=v3) (i:=i) (by omega)]
     have hkey:keyP v3 S i=(v3[i]'(by omega),if hs S i=true then 1 else 0):=by rw [keyP,hk]
     have okk:∀z:Int,z=0∨z=1→okB (kP (v3[i]'(by omega),z))=true:=fun z hz=>by simp [okB,kP];omega
     rw [keysP_at c,numG,hkey]
     cases hh:hs S i with
     | true=>
       simp only [_root_.cond_true,Option.bind_some,mgt,okk 1 (.inr rfl),if_true]
       cases hm:mfind mp (v3[i]'(by omega),1) with
       | some n=>
         simp only [Bool.not_true,_root_.cond_false,Option.bind_some]
         exact step n mp hok (by omega)
       | none=>
         simp only [Bool.not_false,_root_.cond_true,Option.bind_some,mpt,okk 1 (.inr rfl),if_true]
         rw [mput_new hm]
         exact step mp.length _ (hok.add hm) (by simp;omega)
     | false=>
       simp only [_root_.cond_false,Option.bind_some,mgt,okk 0 (.inl rfl),if_true,Bool.false_eq_true,if_false]
       cases hm:mfind mp (v3[i]'(by omega),0) with
       | some n=>
         simp only [Bool.not_true,_root_.cond_false,Option.bind_some]
         exact step n mp hok (by omega)
       | none=>
         simp only [Bool.not_false,_root_.cond_true,Option.bind_some,mpt,okk 0 (.inl rfl),if_true]
         rw [mput_new hm]
         exact step mp.length _ (hok.add hm) (by simp;omega)
   · have e:i=256:=by omega
     subst e
     rw [if_neg (by omega),List.drop_of_length_le (by simp [keysP])]
     simp [numG]
def blkP:List Int→List CSet→List Int
 | v,[]=>v
 | v,S::l=>blkP (numG [] (keysP v S)) l
theorem keysP_get {v:List Int} {S:CSet} {i:Nat} (h:i<256):(keysP v S)[i]?=some (keyP v S i):=by
 simp [keysP,h]
theorem numG_blk (v:List Int) (S:CSet):Blk (numG [] (keysP v S)):=by
 refine ⟨by rw [numG_len];simp [keysP],fun i x h=>numG_0 okm_nil h,fun i x h=>?_⟩
 rcases numG_D okm_nil h with h1 | h1 | h1
 · have:=numG_0 okm_nil h
   simp at h1
   omega
 · exact .inl h1
 · exact .inr h1
theorem Blk.small {v:List Int} (h:Blk v):∀x∈v,0≤x∧x≤1000:=fun x hx=>by
 have:=(bR_in h.rgt).2 x hx
 omega
theorem blk0:Blk (List.replicate 256 0):=by
 refine ⟨by simp,fun i x h=>?_,fun i x h=>?_⟩
 · rw [List.getElem?_replicate] at h
   split at h<;>cases h
   omega
 · rw [List.getElem?_replicate] at h
   split at h<;>cases h
   cases i with
   | zero=>exact .inr (by simp [cnt])
   | succ i=>exact .inl ⟨0,by omega,by simp⟩
theorem blkP_blk:∀{l:List CSet} {v:List Int},Blk v→Blk (blkP v l)
 | [],_,h=>h
 | S::l,v,_=>blkP_blk (l:=l) (numG_blk v S)
theorem blkP_same:∀{l:List CSet} {v:List Int} {i j:Nat} {x y a b:Int},Blk v→i<j→j<256→v[i]?=some a→v[j]?=some b→(blkP v l)[i]?=some x→(blkP v l)[j]?=some y→
 (x=y↔a=b∧∀S∈l,hs S i=hs S j)
 | [],v,i,j,x,y,a,b,_,_,_,h1,h2,h3,h4=>by
   simp only [blkP] at h3 h4
   rw [h1] at h3
   rw [h2] at h4
   cases h3
   cases h4
   simp
 | S::l,v,i,j,x,y,a,b,hb,hij,hj,h1,h2,h3,h4=>by
   have nb:=numG_blk v S
   have gi:=List.getElem?_eq_getElem (show i<(numG [] (keysP v S)).length by rw [nb.len];omega)
   have gj:=List.getElem?_eq_getElem (show j<(numG [] (keysP v S)).length by rw [nb.len];omega)
   rw [blkP_same (l:=l) nb hij hj gi gj h3 h4,numG_B okm_nil hij (keysP_get (by omega)) (keysP_get hj) gi gj]
   have ea:keyP v S i=(a,if hs S i=true then 1 else 0):=by rw [keyP,List.getD_eq_getElem?_getD,h1];rfl
   have eb:keyP v S j=(b,if hs S j=true then 1 else 0):=by rw [keyP,List.getD_eq_getElem?_getD,h2];rfl
   rw [ea,eb,Prod.mk.injEq]
   have e:((if hs S i=true then (1:Int) else 0)=if hs S j=true then 1 else 0)↔hs S i=hs S j:=by
    cases hs S i<;>cases hs S j<;>simp
   rw [e]
   simp only [List.mem_cons,forall_eq_or_imp]
   constructor
   · rintro ⟨⟨q1,q2⟩,q3⟩;exact ⟨q1,q2,q3⟩
   · rintro ⟨q1,q2,q3⟩;exact ⟨⟨q1,q2⟩,q3⟩
def blkS (l:List CSet):List Int:=blkP (List.replicate 256 0) l
theorem blkS_blk (l:List CSet):Blk (blkS l):=blkP_blk blk0
theorem blkS_same {l:List CSet} {i j:Nat} {x y:Int} (hij:i<j) (hj:j<256) (h3:(blkS l)[i]?=some x) (h4:(blkS l)[j]?=some y):(x=y↔∀S∈l,hs S i=hs S j):=by
 rw [blkP_same blk0 hij hj (a:=0) (b:=0) (by rw [List.getElem?_replicate,if_pos (by omega)]) (by rw [List.getElem?_replicate,if_pos (by omega)]) h3 h4]
 simp
theorem bof_l1 {p0:List CSet} (hl:p0.length≤100000) {N:Nat} (hN:300≤N):∀(m j:Nat) (v:List Int),Blk v→j≤p0.length→p0.length<j+m→blocks_Of_l1 N p0 m j v=some (blkP v (p0.drop j)):=by
 intro m
 induction m with
 | zero=>intro j v h1 h2 h3;omega
 | succ m ih=>
   intro j v hv h2 h3
   rw [blocks_Of_l1]
   simp only [cm_lss,ll_eq,cond_dec]
   by_cases c:j<p0.length
   · rw [if_pos (by omega),at_in c,List.drop_eq_getElem_cons c,blkP]
     have hz:zro (cI .i64) (0:Int) 256 256=some (List.replicate 256 0):=by simp [zro]
     simp only [Option.bind_some,hz]
     have h:=bof_l3 (k1:=blocks_Of_l1 N p0 m) (v2:=(j:Int)) (S:=p0[j]) (l5:=List.replicate 256 0) hv.len (by simp) hv.small N 0 [] [] rfl (by omega) (by omega) okm_nil (by simp)
     have h':blocks_Of_l3 (blocks_Of_l1 N p0 m) (j:Int) v p0[j] (List.replicate 256 0) N 0 (List.replicate 256 0) []=_:=h
     rw [h',inc1 (by omega),List.nil_append,List.drop_zero]
     exact ih (j+1) _ (numG_blk _ _) (by omega) (by omega)
   · rw [if_neg (by omega),List.drop_of_length_le (by omega)]
     rfl
theorem bof_p {p0:List CSet} (hl:p0.length≤100000) {N:Nat} (hN:300≤N) (hN2:p0.length<N):blocks_Of_g N p0=some (blkS p0):=by
 have hz:zro (cI .i64) (0:Int) 256 256=some (List.replicate 256 0):=by simp [zro]
 unfold blocks_Of_g
 rw [hz,Option.bind_some]
 exact bof_l1 hl hN N 0 _ blk0 (by omega) (by omega)
end Dq
end Go.Proofs.YtjhbgkakhaonaaaGreatDoor
namespace Go.Proofs.YtjhbgkakhaonaaaGreatDoor
open Go
open Sh Gn
open Pl (pickL mem_pick pick_congr pick_len pickF pickF_0 pickF_s pickF_e Fit Low nextOf Mk mk_0 mk_at mk_set rs rs_in okB)
namespace Dq
def hb (p:GSpots) (b:Nat) (x:Int):Bool:=match p.Sets[x.toNat]? with
 | some S=>hs S b
 | none=>false
def setK (p:GSpots) (acc:List Int) (b:Nat):List Int:=pickL p.Sets.length fun x=>decide (x∈acc)&&hb p b x
def tk (p:GSpots) (l:List Int):Bool:=l.any fun x=>decide (x∈p.Last)
def fA:Nat→List (List Int)→List Int→Option Nat
 | _,[],_=>none
 | k,y::t,x=>if y=x then some k else fA (k+1) t x
def fnd (s:List (List Int)) (x:List Int):Option Nat:=fA 1 s.tail x
def rowS (p:GSpots) (acc:List Int):List Nat→List (List Int)→List Bool→List Int→Option (List (List Int)× List Bool × List Int)
 | [],s,fi,r=>some (s,fi,r)
 | b::bs,s,fi,r=>match fnd s (setK p acc b) with
   | some j=>rowS p acc bs s fi (r++[(j:Int)])
   | none=>if 4096≤s.length then none else rowS p acc bs (s++[setK p acc b]) (fi++[tk p (setK p acc b)]) (r++[(s.length:Int)])
def may (p:GSpots) (n:Nat) (x:List Int):List Int:=(if n=0 then p.First else [])++x.flatMap (nextOf p)
def ofS (p:GSpots) (bs:List Nat):Nat→Nat→List (List Int)→List Bool→List (List Int)→Option (Option (List (List Int)× List Bool × List (List Int)))
 | 0,_,_,_,_=>none
 | m +1,n,s,fi,nx=>match s[n]? with
   | none=>some (some (s,fi,nx))
   | some x=>match rowS p (may p n x) bs s fi [] with
     | none=>some none
     | some (s',fi',r)=>ofS p bs m (n+1) s' fi' (nx++[r])
theorem fA_ge:∀{t:List (List Int)} {k j:Nat} {x:List Int},fA k t x=some j→k≤j∧j<k+t.length∧t[j-k]?=some x
 | [],_,_,_,h=>by cases h
 | y ::t,k,j,x,h=>by
   rw [fA] at h
   split at h
   · rename_i e
     cases h
     subst e
     exact ⟨Nat.le_refl _,by simp,by simp⟩
   · obtain ⟨h1,h2,h3⟩:=fA_ge h
     refine ⟨by omega,by simp only [List.length_cons];omega,?_⟩
     rw [show j-k=(j-(k+1))+1 by omega]
     simpa using h3
theorem fA_app:∀{t:List (List Int)} {k:Nat} {x y:List Int},fA k (t++[y]) x=(match fA k t x with
 | some j=>some j
 | none=>if y=x then some (k+t.length) else none)
 | [],k,x,y=>by simp [fA]
 | z::t,k,x,y=>by
   simp only [List.cons_append,fA]
   split
   · rfl
   · rw [fA_app,List.length_cons,show k+1+t.length=k+(t.length+1) by omega]
theorem fnd_app {s:List (List Int)} (h:s≠[]) {x y:List Int}:fnd (s++[y]) x=match fnd s x with
 | some j=>some j
 | none=>if y=x then some s.length else none:=by
 cases s with
 | nil=>exact absurd rfl h
 | cons z t=>
   simp only [fnd,List.cons_append,List.tail_cons]
   rw [fA_app,List.length_cons,show 1+t.length=t.length+1 by omega]
theorem fnd_some {s:List (List Int)} {x:List Int} {j:Nat} (h:fnd s x=some j):1≤j∧j<s.length∧s[j]?=some x:=by
 cases s with
 | nil=>cases h
 | cons z t=>
   obtain ⟨h1,h2,h3⟩:=fA_ge h
   simp only [List.tail_cons] at h2 h3
   refine ⟨h1,by simp only [List.length_cons];omega,?_⟩
   obtain ⟨k,rfl⟩:∃k,j=k+1:=⟨j-1,by omega⟩
   simpa using h3
def keyL (v:List Bool):List Int:=v.map fun b=>if b=true then 1 else 0
def keyB (v:List Bool):ByteArray:=ofBytes (keyL v)
theorem keyL_ok (v:List Bool):bokB (keyL v)=true:=by
 simp only [bokB,keyL,List.all_map,List.all_eq_true,Function.comp]
 intro b _
 cases b<;>simp
theorem keyB_inj:∀{v w:List Bool},keyB v=keyB w→v=w:=fun {v w} h=>by
 have h1:(keyB v).data.toList=(keyB w).data.toList:=by rw [h]
 simp only [keyB,ofBytes,keyL,List.map_map] at h1
 have key:∀(a b:List Bool),a.map ((fun n:Int=>UInt8.ofNat n.toNat) ∘ fun b=>if b=true then 1 else 0)=b.map ((fun n:Int=>UInt8.ofNat n.toNat) ∘ fun b=>if b=true then 1 else 0)→a=b:=by
  intro a
  induction a with
  | nil=>intro b h;cases b with | nil=>rfl | cons _ _=>simp at h
  | cons x a ih=>
    intro b h
    cases b with
    | nil=>simp at h
    | cons y b=>
      simp only [List.map_cons,List.cons.injEq] at h
      rw [ih b h.2]
      have:x=y:=by
       have:=h.1
       cases x<;>cases y<;>simp_all [Function.comp]
      rw [this]
 exact key _ _ (by simpa using h1)
theorem keyB_size (v:List Bool):(keyB v).size=v.length:=by
 show (ofBytes (keyL v)).data.size=_
 simp [ofBytes,keyL]
theorem key_l {v:List Bool} (hv:v.length≤100000):∀(m i:Nat) (pre:List Int),1≤i→i≤v.length→v.length<i+m→pre=keyL (v.take i)→dfa_key_l1 v m i pre=some (keyB v):=by
 intro m
 induction m with
 | zero=>intro i pre h0 h1 h2;omega
 | succ m ih=>
   intro i pre h0 h1 h2 hp
   have hpl:pre.length=i:=by rw [hp,keyL,List.length_map,List.length_take];omega
   rw [dfa_key_l1]
   simp only [cm_lss,ll_eq,cond_dec]
   by_cases c:i<v.length
   · rw [if_pos (by omega),at_in c,Option.bind_some,inc1 (by omega)]
     have e:∀n:Int,n=(if v[i]=true then 1 else 0)→pre++[n]=keyL (v.take (i+1)):=fun n hn=>by
      have e2:v.take (i+1)=v.take i++[v[i]]:=by rw [List.take_add_one,List.getElem?_eq_getElem c];rfl
      rw [e2,hp,hn]
      simp only [keyL,List.map_append,List.map_cons,List.map_nil]
     cases hb:v[i] with
     | true=>
       rw [_root_.cond_true,app_eq (by simp;omega),Option.bind_some,Option.bind_some]
       exact ih (i+1) _ (by omega) (by omega) (by omega) (e 1 (by simp [hb]))
     | false=>
       rw [_root_.cond_false,app_eq (by simp;omega),Option.bind_some,Option.bind_some]
       exact ih (i+1) _ (by omega) (by omega) (by omega) (e 0 (by simp [hb]))
   · rw [if_neg (by omega),hp,List.take_of_length_le (by omega),strB,if_pos (keyL_ok v)]
     rfl
theorem key_p {v:List Bool} (hv:v.length≤100000) {N:Nat} (hN:v.length<N):dfa_key_g N v=some (keyB v):=by
 unfold dfa_key_g
 simp only [cm_lss,ll_eq,cond_dec]
 cases v with
 | nil=>rfl
 | cons b v=>
   have e1:ar .add .i64 0 1=((1:Nat):Int):=inc1 (i:=0) (by omega)
   rw [if_pos (by simp only [List.length_cons];omega),show at_ (b::v) 0=some b from rfl,Option.bind_some,e1]
   cases b with
   | true=>
     rw [_root_.cond_true,app_eq (by simp),Option.bind_some,Option.bind_some]
     exact key_l hv N 1 _ (by omega) (by simp) (by simp only [List.length_cons] at hN ⊢;omega) (by simp [keyL])
   | false=>
     rw [_root_.cond_false,app_eq (by simp),Option.bind_some,Option.bind_some]
     exact key_l hv N 1 _ (by omega) (by simp) (by simp only [List.length_cons] at hN ⊢;omega) (by simp [keyL])
def selB (v:List Bool):List Int:=pickL v.length fun x=>v.getD x.toNat false
theorem selB_mem {v:List Bool} {k:Nat} (h:k<v.length):(k:Int)∈selB v↔v[k]=true:=by
 rw [selB,mem_pick,Int.toNat_natCast,List.getD_eq_getElem?_getD,List.getElem?_eq_getElem h]
 simp only [Option.getD_some]
 exact ⟨fun h=>h.2,fun h2=>⟨⟨by omega,by omega⟩,h2⟩⟩
theorem selB_inj {v w:List Bool} (hl:v.length=w.length) (h:selB v=selB w):v=w:=by
 apply List.ext_getElem hl
 intro k h1 h2
 rw [Bool.eq_iff_iff,←selB_mem h1,h,selB_mem h2]
def SeenOk (M:Nat) (seen:List (ByteArray × Int)) (s:List (List Int)):Prop:=
 ∀v:List Bool,v.length=M→mfind seen (keyB v)=Option.map (fun j:Nat=>(j:Int)) (fnd s (selB v))
theorem seen_nil {M:Nat}:SeenOk M [] [[]]:=fun v _=>rfl
theorem SeenOk.add {M:Nat} {seen:List (ByteArray × Int)} {s:List (List Int)} (h:SeenOk M seen s) (hs:s≠[]) {v:List Bool} (hv:v.length=M) (hn:fnd s (selB v)=none):SeenOk M (mput seen (keyB v) s.length) (s++[selB v]):=by
 have h0:mfind seen (keyB v)=none:=by rw [h v hv,hn];rfl
 intro w hw
 rw [mput_new h0,mfind_add,h w hw,fnd_app hs]
 cases hf:fnd s (selB w) with
 | some j=>rfl
 | none=>
   simp only [Option.map_none]
   by_cases e:v=w
   · subst e;simp
   · rw [if_neg (fun h=>e (keyB_inj h)),if_neg (fun h=>e (selB_inj (hv.trans hw.symm) h))]
     rfl
theorem index_l {l:List Int} {x:Int} (hl:l.length≤100000):∀(m i:Nat),i≤l.length→l.length<i+m→∃j:Int,slices_Index_152_l1 l x m i=some j∧(0≤j↔x∈l.drop i):=by
 intro m
 induction m with
 | zero=>intro i h1 h2;omega
 | succ m ih=>
   intro i h1 h2
   rw [slices_Index_152_l1]
   simp only [cm_lss,ll_eq,cond_dec,cm_eql]
   by_cases c:i<l.length
   · rw [if_pos (by omega),at_in c,Option.bind_some,inc1 (by omega),List.drop_eq_getElem_cons c]
     by_cases e:x=l[i]
     · rw [if_pos e]
       exact ⟨i,rfl,fun _=>by rw [e];exact List.mem_cons_self,fun _=>by omega⟩
     · rw [if_neg e]
       obtain ⟨j,h3,h4⟩:=ih (i+1) (by omega) (by omega)
       exact ⟨j,h3,by rw [h4,List.mem_cons];exact ⟨.inr,fun h=>h.resolve_left e⟩⟩
   · rw [if_neg (by omega),List.drop_of_length_le (by omega)]
     exact ⟨-1,rfl,by simp⟩
theorem contains_p {l:List Int} {x:Int} (hl:l.length≤100000) {N:Nat} (hN:l.length<N):slices_Contains_150_g N l x=some (decide (x∈l)):=by
 unfold slices_Contains_150_g slices_Index_152_g
 obtain ⟨j,h1,h2⟩:=index_l (x:=x) hl N 0 (by omega) (by omega)
 have h1':slices_Index_152_l1 l x N 0=some j:=h1
 rw [h1',Option.bind_some,cm_geq]
 simp only [List.drop_zero] at h2
 simp only [h2]
variable {p:GSpots}
theorem meet_l {N:Nat} {v:List Bool} {s0:Gdfa_builder} {m3:List (ByteArray × Int)} (hv:v.length≤1000) (hl:s0.p.Last.length≤1000) (hN:5000≤N):∀(m i:Nat) (acc:List Int),i≤v.length→v.length<i+m→acc.length≤i→acc++pickF i v.length (fun x=>v.getD x.toNat false)=selB v→
 dfa_builder_meet_l1 N v s0 m3 m (tk s0.p acc) i acc=(dfa_builder_add_g (selB v) (tk s0.p (selB v)) (⟨s0.p,s0.in_,m3,s0.sets,s0.out⟩:Gdfa_builder)).bind fun a10=>some (ll (rw _ (cLs (cI .i64)) s0.out.Next),a10):=by
 intro m
 induction m with
 | zero=>intro i acc h1 h2;omega
 | succ m ih=>
   intro i acc h1 h2 h3 h4
   rw [dfa_builder_meet_l1]
   have ell:ll (rw Bool cB v)=(v.length:Int):=ll_eq
   rw [ell]
   simp only [cm_lss,cond_dec]
   by_cases c:i<v.length
   · rw [if_pos (by omega),at_in c,Option.bind_some,inc1 (by omega)]
     have hg:v.getD ((i:Int)).toNat false=v[i]:=by rw [Int.toNat_natCast,List.getD_eq_getElem?_getD,List.getElem?_eq_getElem c];rfl
     rw [pickF_s c,hg] at h4
     cases hb:v[i] with
     | true=>
       rw [hb,if_pos rfl] at h4
       have ec:(cond (tk s0.p acc) (some true) ((slices_Contains_150_g N s0.p.Last (i:Int)).bind fun a9=>some a9):Option Bool)=some (tk s0.p (acc++[(i:Int)])):=by
        rw [contains_p (by omega) (by omega)]
        simp only [tk,List.any_append,List.any_cons,List.any_nil,Bool.or_false,Option.bind_some]
        cases (acc.any fun x=>decide (x∈s0.p.Last))<;>rfl
       rw [_root_.cond_true,app_eq (by simp;omega),Option.bind_some,ec,Option.bind_some,Option.bind_some]
       exact ih (i+1) _ (by omega) (by omega) (by simp;omega) (by rw [List.append_assoc];exact h4)
     | false=>
       rw [hb,if_neg (by simp)] at h4
       rw [_root_.cond_false,Option.bind_some]
       exact ih (i+1) _ (by omega) (by omega) (by omega) h4
   · have e:i=v.length:=by omega
     subst e
     rw [pickF_e,List.append_nil] at h4
     rw [if_neg (by omega),h4]
def bld (p:GSpots) (inn:List (List Int)) (B:List Int) (seen:List (ByteArray × Int)) (s:List (List Int)) (fi:List Bool) (nx:List (List Int)):Gdfa_builder:=⟨p,inn,seen,s,⟨0,fi,B,nx⟩⟩
theorem meet_p {N:Nat} {v:List Bool} {inn:List (List Int)} {B:List Int} {seen:List (ByteArray × Int)} {s:List (List Int)} {fi:List Bool} {nx:List (List Int)} (hv:v.length≤1000) (hl:p.Last.length≤1000) (hN:5000≤N) (hs:SeenOk v.length seen s) (h0:s≠[]) (h1:s.length≤4096) (h2:fi.length=s.length) (h3:nx.length=s.length):
 match fnd s (selB v) with
 | some j=>dfa_builder_meet_g N v (bld p inn B seen s fi nx)=some ((j:Int),bld p inn B seen s fi nx)
 | none=>if 4096≤s.length then dfa_builder_meet_g N v (bld p inn B seen s fi nx)=some (-1,bld p inn B seen s fi nx)
   else ∃seen',SeenOk v.length seen' (s++[selB v])∧dfa_builder_meet_g N v (bld p inn B seen s fi nx)=some ((s.length:Int),bld p inn B seen' (s++[selB v]) (fi++[tk p (selB v)]) (nx++[[]])):=by
 have hk:dfa_key_g N v=some (keyB v):=key_p (by omega) (by omega)
 have hok:Sh.okB (Ab.Key.s (keyB v))=true:=by simp only [Sh.okB,keyB_size,decide_eq_true_eq];omega
 have hm:=hs v rfl
 have e1:ll (rw _ (cLs (cI .i64)) (bld p inn B seen s fi nx).out.Next)=(s.length:Int):=by rw [ll_eq];show (nx.length:Int)=_;omega
 unfold dfa_builder_meet_g
 rw [hk]
 simp only [Option.bind_some,mgt,mpt,hok,if_true]
 rw [show (bld p inn B seen s fi nx).seen=seen from rfl,hm]
 cases hf:fnd s (selB v) with
 | some j=>rfl
 | none=>
   simp only [Option.map_none]
   rw [e1,cm_eql,cond_dec]
   by_cases g:4096≤s.length
   · rw [if_pos g,if_pos (by omega)]
   · rw [if_neg g,if_neg (by omega)]
     refine ⟨mput seen (keyB v) s.length,hs.add h0 rfl hf,?_⟩
     have hm1:=meet_l (N:=N) (v:=v) (s0:=bld p inn B seen s fi nx) (m3:=mput seen (keyB v) s.length) hv hl hN N 0 [] (by omega) (by omega) (by simp) rfl
     have hm2:dfa_builder_meet_l1 N v (bld p inn B seen s fi nx) (mput seen (keyB v) s.length) N false 0 []=_:=hm1
     rw [hm2,e1]
     unfold dfa_builder_add_g
     rw [app_eq (by simp [bld];omega),Option.bind_some,app_eq (by simp [bld];omega),Option.bind_some,app_eq (by simp [bld];omega),Option.bind_some]
     rfl
end Dq
end Go.Proofs.YtjhbgkakhaonaaaGreatDoor
namespace Go.Proofs.YtjhbgkakhaonaaaGreatDoor
open Go
open Sh Gn
open Pl (pickL mem_pick pick_congr pick_len pickF pickF_0 pickF_s pickF_e Fit Low nextOf Mk mk_0 mk_at mk_set rs rs_in okB fit_pick)
namespace Dq
variable {p:GSpots}
theorem mk_sel {M:Nat} {v:List Bool} {acc:List Int} (h:Mk M v acc):selB v=pickL M fun x=>decide (x∈acc):=by
 unfold selB
 rw [h.1]
 refine pick_congr fun x h0 h1=>?_
 obtain ⟨k,rfl⟩:=Int.eq_ofNat_of_zero_le h0
 rw [Int.toNat_natCast,List.getD_eq_getElem?_getD,h.2 k (by omega)]
 rfl
theorem step_l2 {s0:Gdfa_builder} (hf:Fit s0.p s0.p.First):∀(m i:Nat) (v:List Bool) (acc:List Int),i≤s0.p.First.length→s0.p.First.length<i+m→Mk s0.p.Sets.length v acc→
 ∃v',Mk s0.p.Sets.length v' (acc++s0.p.First.drop i)∧dfa_builder_step_l2 s0 m i v=some v':=by
 have h200:=hf.1
 intro m
 induction m with
 | zero=>intro i v acc h1 h2;omega
 | succ m ih=>
   intro i v acc h1 h2 hv
   rw [dfa_builder_step_l2]
   simp only [cm_lss,ll_eq,cond_dec]
   by_cases c:i<s0.p.First.length
   · have hx:=hf.2 _ (List.getElem_mem c)
     rw [if_pos (by omega),at_in c,Option.bind_some,mk_at hv hx,Option.bind_some,Option.bind_some,put,inc1 (by omega)]
     obtain ⟨v',h3,h4⟩:=ih (i+1) _ _ (by omega) (by omega) (mk_set hv hx)
     refine ⟨v',?_,h4⟩
     rw [List.drop_eq_getElem_cons c,←List.append_cons] at *
     exact h3
   · rw [if_neg (by omega),List.drop_of_length_le (by omega),List.append_nil]
     exact ⟨v,hv,rfl⟩
theorem step_l5 {k3:Int→List Bool→Option (Bool × Gdfa_builder)} {v10:Int} {r:List Int} (hr:Fit p r):∀(m i:Nat) (v:List Bool) (acc:List Int),i≤r.length→r.length<i+m→Mk p.Sets.length v acc→
 ∃v',Mk p.Sets.length v' (acc++r.drop i)∧dfa_builder_step_l5 k3 v10 r m i v=k3 (ar .add .i64 v10 1) v':=by
 have h200:=hr.1
 intro m
 induction m with
 | zero=>intro i v acc h1 h2;omega
 | succ m ih=>
   intro i v acc h1 h2 hv
   rw [dfa_builder_step_l5]
   simp only [cm_lss,ll_eq,cond_dec]
   by_cases c:i<r.length
   · have hx:=hr.2 _ (List.getElem_mem c)
     rw [if_pos (by omega),at_in c,Option.bind_some,mk_at hv hx,Option.bind_some,Option.bind_some,put,inc1 (by omega)]
     obtain ⟨v',h3,h4⟩:=ih (i+1) _ _ (by omega) (by omega) (mk_set hv hx)
     refine ⟨v',?_,h4⟩
     rw [List.drop_eq_getElem_cons c,List.append_cons]
     exact h3
   · rw [if_neg (by omega),List.drop_of_length_le (by omega),List.append_nil]
     exact ⟨v,hv,rfl⟩
theorem mk_val {M:Nat} {v:List Bool} {acc:List Int} (h:Mk M v acc) {x:Int} (hx:0≤x∧x<M) {all:List Int} (b:Bool) (hb:b=decide (x∈all)) (hsub:∀y∈acc,y∈all):Mk M (v.set x.toNat b) (acc++if x∈all then [x] else []):=by
 cases b with
 | true=>
   rw [if_pos (of_decide_eq_true hb.symm)]
   exact mk_set h hx
 | false=>
   have hn:x∉all:=of_decide_eq_false hb.symm
   rw [if_neg hn,List.append_nil]
   refine ⟨by rw [List.length_set];exact h.1,fun k hk=>?_⟩
   by_cases e:x.toNat=k
   · rw [e,List.getElem?_set_self (by rw [h.1];exact hk)]
     congr 1
     rw [eq_comm,decide_eq_false_iff_not]
     intro hm
     exact hn (by have:=hsub _ hm;rwa [show ((k:Int))=x by omega] at this)
   · rw [List.getElem?_set_ne e]
     exact h.2 k hk
structure Bs (p:GSpots) (seen:List (ByteArray × Int)) (s:List (List Int)) (fi:List Bool) (nx:List (List Int)):Prop where
 seen:SeenOk p.Sets.length seen s
 ne:s≠[]
 le:s.length≤4096
 fin:fi.length=s.length
 nx:nx.length=s.length
def inK (p:GSpots) (b:Nat):List Int:=pickL p.Sets.length (hb p b)
theorem step_l7 {N:Nat} {k6:Int→List CSet→Bool→List Int→List Int→List (List Int)→List (List Int)→Int→List Int→List (ByteArray × Int)→List (List Int)→List Bool→List (List Int)→List Int→Option (Bool × Gdfa_builder)} {k:Nat} {inn:List (List Int)} {B:List Int}
 {seen:List (ByteArray × Int)} {s:List (List Int)} {fi:List Bool} {nx:List (List Int)} {row:List Int} {v11:List Bool} {acc:List Int} {b:Nat} (hp:Low p) (hlast:p.Last.length≤1000) (hN:5000≤N) (hB:Bs p seen s fi nx) (hv:Mk p.Sets.length v11 acc) (hk:k<row.length) (hk2:row.length≤1000):∀(m i:Nat) (v:List Bool) (acc':List Int),i≤(inK p b).length→(inK p b).length<i+m→
 Mk p.Sets.length v acc'→(∀y∈acc',y∈acc)→(∀x:Int,x∈acc'++((inK p b).drop i).filter (fun x=>decide (x∈acc))↔x∈setK p acc b)→
 match fnd s (setK p acc b) with
 | some j=>dfa_builder_step_l7 N k6 k p.First (inK p b) p.Last p.Sets p.None p.Next inn 0 B seen s fi nx row v11 m i v=k6 ((k+1:Nat):Int) p.Sets p.None p.First p.Last p.Next inn 0 B seen s fi nx (row.set k (j:Int))
 | none=>if 4096≤s.length then ∃d,dfa_builder_step_l7 N k6 k p.First (inK p b) p.Last p.Sets p.None p.Next inn 0 B seen s fi nx row v11 m i v=some (false,d)
   else ∃seen',Bs p seen' (s++[setK p acc b]) (fi++[tk p (setK p acc b)]) (nx++[[]])∧dfa_builder_step_l7 N k6 k p.First (inK p b) p.Last p.Sets p.None p.Next inn 0 B seen s fi nx row v11 m i v=
    k6 ((k+1:Nat):Int) p.Sets p.None p.First p.Last p.Next inn 0 B seen' (s++[setK p acc b]) (fi++[tk p (setK p acc b)]) (nx++[[]]) (row.set k (s.length:Int)):=by
 have hM:=hp.sets
 have hl:(inK p b).length≤p.Sets.length:=pick_len
 intro m
 induction m with
 | zero=>intro i v acc' h1 h2;omega
 | succ m ih=>
   intro i v acc' h1 h2 hm hsub hset
   rw [dfa_builder_step_l7]
   simp only [cm_lss,ll_eq,cond_dec]
   by_cases c:i<(inK p b).length
   · have hx:0≤(inK p b)[i]∧(inK p b)[i]<p.Sets.length:=(mem_pick.1 (List.getElem_mem c)).1
     simp only [show (i:Int)<((inK p b).length:Int) by omega,if_true,at_in c,Option.bind_some,mk_at hv hx,mk_at hm hx,put,inc1 (show i≤100000000 by omega)]
     refine ih (i+1) _ _ (by omega) (by omega) (mk_val hm hx (all:=acc) _ rfl hsub) (fun y hy=>?_) fun x=>?_
     · rcases List.mem_append.1 hy with h | h
       · exact hsub y h
       · split at h
         · rw [List.mem_singleton] at h;subst h;assumption
         · cases h
     · rw [←hset x,List.drop_eq_getElem_cons c,List.filter_cons]
       by_cases e:(inK p b)[i]∈acc
       · simp [e,List.append_assoc]
       · simp [e]
   · have e0:¬(i:Int)<((inK p b).length:Int):=by omega
     have hd:(inK p b).drop i=[]:=List.drop_of_length_le (by omega)
     rw [hd,List.filter_nil,List.append_nil] at hset
     have hsel:selB v=setK p acc b:=by
      rw [mk_sel hm]
      refine pick_congr fun x h0 h1=>?_
      rw [Bool.eq_iff_iff,decide_eq_true_eq,hset x,setK,mem_pick]
      exact ⟨fun h=>h.2,fun h=>⟨⟨h0,h1⟩,h⟩⟩
     have hseen:SeenOk v.length seen s:=by rw [hm.1];exact hB.seen
     have hmt:=meet_p (p:=p) (N:=N) (v:=v) (inn:=inn) (B:=B) (nx:=nx) (fi:=fi) (by rw [hm.1];omega) hlast hN hseen hB.ne hB.le hB.fin hB.nx
     rw [hsel] at hmt
     simp only [e0,if_false]
     have hbd:(⟨(⟨p.Sets,p.None,p.First,p.Last,p.Next⟩:GSpots),inn,seen,s,(⟨0,fi,B,nx⟩:GDfa)⟩:Gdfa_builder)=bld p inn B seen s fi nx:=rfl
     rw [hbd]
     have hrow:at_ row (k:Int)=some (row[k]):=at_in hk
     have hset2:∀n:Int,at_ (row.set k n) (k:Int)=some n:=fun n=>by rw [at_nat,List.getElem?_set_self hk]
     cases hf:fnd s (setK p acc b) with
     | some j=>
       rw [hf] at hmt
       simp only at hmt ⊢
       have hj:=fnd_some hf
       simp only [hmt,Option.bind_some,hrow,put,Int.toNat_natCast,hset2,show ¬((j:Int)<0) by omega,if_false,inc1 (show k≤100000000 by omega)]
       rfl
     | none=>
       rw [hf] at hmt
       simp only at hmt ⊢
       by_cases g:4096≤s.length
       · rw [if_pos g] at hmt ⊢
         refine ⟨bld p inn B seen s fi nx,?_⟩
         simp only [hmt,Option.bind_some,hrow,put,Int.toNat_natCast,hset2,show ((-1:Int)<0) by omega,if_true]
       · rw [if_neg g] at hmt ⊢
         obtain ⟨seen',q1,q2⟩:=hmt
         refine ⟨seen',⟨by rw [←hm.1];exact q1,by simp,by simp;omega,by simp [hB.fin],by simp [hB.nx]⟩,?_⟩
         simp only [q2,Option.bind_some,hrow,put,Int.toNat_natCast,hset2,show ¬((s.length:Int)<0) by omega,if_false,inc1 (show k≤100000000 by omega)]
         rfl
end Dq
end Go.Proofs.YtjhbgkakhaonaaaGreatDoor
