/- Texts that the proof leans on. -/
import Derived.Recover
import Derived.Laws.Pointers
import Derived.Test.YtjhbgkakhaonaaaGreatDoorK321
import Derived.Lib.Builder
import Derived.Lib.UnsafeStr
import Derived.Shelf.RegionOpenPlain
import Derived.Laws.Externs
set_option linter.unusedVariables false
set_option linter.unusedSimpArgs false
set_option maxRecDepth 100000
set_option maxHeartbeats 4000000
namespace Go.Proofs.YtjhbgkakhaonaaaGreatDoor
open Go Go.RowKit
structure Only (rb:Nat) (w w':World):Prop where
 os:w'.os=w.os
 tape:w'.tape=w.tape
 output:w'.output=w.output
 size:w.heap.size≤w'.heap.size
 block:∀k,k<w.heap.size→k≠rb→w'.heap[k]?=w.heap[k]?
section
variable {rb:Nat} {a w w':World}
theorem Only.refl (rb:Nat) (w:World):Only rb w w:=⟨rfl,rfl,rfl,Nat.le_refl _,fun _ _ _=>rfl⟩
theorem Only.set (h:Only rb a w) {p:Addr} (hp:p.block=rb∨a.heap.size≤p.block) (u:Value):Only rb a (w.setCell p u):=
 ⟨h.os,h.tape,h.output,by simpa [World.setCell] using h.size,fun i hi hne=>(Below.heap_setCell w p u i (by
  rintro rfl
  rcases hp with hp | hp
  · exact hne hp
  · omega)).trans (h.block i hi hne)⟩
theorem Only.blk {g:Nat} {t:TypeId} {cs:Array Value} (h:Only rb w w') (hg:g≠rb) (hb:Blk w g cs t):Blk w' g cs t:=(h.block g hb.lt hg).trans hb
end
theorem set8_only (rb:Nat) (w:World) (v0 v1 v2 v3 v4 v5 v6 v7:Value):Only rb w ((((((((w.setCell ⟨rb,0,none⟩ v0).setCell ⟨rb,1,none⟩ v1).setCell ⟨rb,2,none⟩ v2).setCell ⟨rb,3,none⟩ v3).setCell ⟨rb,4,none⟩ v4).setCell ⟨rb,5,none⟩ v5).setCell ⟨rb,6,none⟩ v6).setCell ⟨rb,7,none⟩ v7):=
 ((((((((Only.refl rb w).set (Or.inl rfl) _).set (Or.inl rfl) _).set (Or.inl rfl) _).set (Or.inl rfl) _).set (Or.inl rfl) _).set (Or.inl rfl) _).set (Or.inl rfl) _).set (Or.inl rfl) _
theorem Only.below {B rb:Nat} {w w':World} (h:Only rb w w') (h1:B≤rb) (h2:B≤w.heap.size):Below B w w':=⟨h.os,h.tape,h.output,h.size,fun k hk=>h.block k (by omega) (by omega)⟩
theorem Blk.put8 {w:World} {g t:Nat} {cs:Array Value} (h:Blk w g cs t) (hc:cs.size=8) (v0 v1 v2 v3 v4 v5 v6 v7:Value):Blk ((((((((w.setCell ⟨g,0,none⟩ v0).setCell ⟨g,1,none⟩ v1).setCell ⟨g,2,none⟩ v2).setCell ⟨g,3,none⟩ v3).setCell ⟨g,4,none⟩ v4).setCell ⟨g,5,none⟩ v5).setCell ⟨g,6,none⟩ v6).setCell ⟨g,7,none⟩ v7) g #[v0,v1,v2,v3,v4,v5,v6,v7] t:=by
 refine Blk.is ((((((((h.put 0 v0).put 1 v1).put 2 v2).put 3 v3).put 4 v4).put 5 v5).put 6 v6).put 7 v7) ?_
 obtain ⟨l⟩:=cs
 match l,hc with
 | [a0,a1,a2,a3,a4,a5,a6,a7],_=>rfl
theorem catch_idle (g h:Nat) (w:World):
 CallsD Tryz.prog 54 #[.pointer (some ⟨g,0,none⟩),.pointer (some ⟨h,0,none⟩)] .returning w fun e u' w'=>e=.returned (.tuple #[])∧u'=.returning∧w'=w:=by
 refine callsD_of_wpS Tryz.func54 rfl fun c₀ cs hu=>?_
 apply wpS_seq
 apply wpS_region
 simp [wpOpsS,go_sem,recoverD,hu,Tryz.ntmps54,Exit.thenS]
 refine wpS_of_wp ?_
 go_wp2
 cases c₀
 simp_all [bodyPostS,results,Tryz.results54]
theorem catch_fault (g h:Nat) (e p:Int) (older:List PanicEntry) (w:World) (B:Nat) (c0 c1 c2 c3 c4 c5 c6 c7 d0 d1:Value) (hg:Blk w g #[c0,c1,c2,c3,c4,c5,c6,c7] 48) (hh:Blk w h #[d0,d1] 55) (hgB:B≤g) (hhB:B≤h) (hne:g≠h):
 CallsD Tryz.prog 54 #[.pointer (some ⟨g,0,none⟩),.pointer (some ⟨h,0,none⟩)] (.panicking ({v:=.iface 89 (.agg #[.int .i64 e,.int .i64 p]),recovered:=false}::older)) w fun x u' w'=>
  x=.returned (.tuple #[])∧u'=.panicking ({v:=.iface 89 (.agg #[.int .i64 e,.int .i64 p]),recovered:=true}::older)∧Blk w' g #[.int .i64 0,.int .u64 0,.int .u64 0,.int .u64 0,.int .u64 0,.slice none 0 0,.int .i64 0,.int .i64 0] 48∧Blk w' h #[.int .i64 e,.int .i64 p] 55∧Below B w w':=by
 have g0:w.cell? ⟨g,0,none⟩=some c0:=hg.cell 0
 have g1:w.cell? ⟨g,1,none⟩=some c1:=hg.cell 1
 have g2:w.cell? ⟨g,2,none⟩=some c2:=hg.cell 2
 have g3:w.cell? ⟨g,3,none⟩=some c3:=hg.cell 3
 have g4:w.cell? ⟨g,4,none⟩=some c4:=hg.cell 4
 have g5:w.cell? ⟨g,5,none⟩=some c5:=hg.cell 5
 have g6:w.cell? ⟨g,6,none⟩=some c6:=hg.cell 6
 have g7:w.cell? ⟨g,7,none⟩=some c7:=hg.cell 7
 have gf:∀i,w.frozen? ⟨g,i,none⟩=false:=hg.frozen
 have h0:w.cell? ⟨h,0,none⟩=some d0:=hh.cell 0
 have h1:w.cell? ⟨h,1,none⟩=some d1:=hh.cell 1
 have hf:∀i,w.frozen? ⟨h,i,none⟩=false:=hh.frozen
 have hgl:g<w.heap.size:=hg.lt
 have hhl:h<w.heap.size:=hh.lt
 have hne2:¬ h=g:=fun e=>hne e.symm
 have HG:=hid_mk hg
 have HH:=hid_mk hh
 clear hg hh
 refine callsD_of_wpS Tryz.func54 rfl fun c₀ cs hu=>?_
 apply wpS_seq
 apply wpS_region
 simp [wpOpsS,go_sem,recoverD,hu,Tryz.ntmps54,Exit.thenS,Array.replicate,List.replicate]
 refine wpS_of_wp ?_
 have HU:=hid_mk hu
 have hta:∀w,(Instr.typeAssert (.iface 89 (.agg #[.int .i64 e,.int .i64 p])) 20 89 true).run Tryz.prog w=.ok (.tuple #[.agg #[.int .i64 e,.int .i64 p],.bool true]) w:=fun _=>by kernel_rfl
 clear hu
 go_wp2
 go_region
 go_wp2
 have hu:=HU.out
 simp [bodyPostS,results,Tryz.results54,go_sem]
 have k1:=HG.out.put8 rfl (.int .i64 0) (.int .u64 0) (.int .u64 0) (.int .u64 0) (.int .u64 0) (.slice none 0 0) (.int .i64 0) (.int .i64 0)
 have k2:=(set8_only g w (.int .i64 0) (.int .u64 0) (.int .u64 0) (.int .u64 0) (.int .u64 0) (.slice none 0 0) (.int .i64 0) (.int .i64 0)).blk hne2 HH.out
 have k3:=(set8_only g w (.int .i64 0) (.int .u64 0) (.int .u64 0) (.int .u64 0) (.int .u64 0) (.slice none 0 0) (.int .i64 0) (.int .i64 0)).below hgB (by omega)
 refine ⟨?_,?_,?_⟩
 · exact Blk.drewN (Blk.alloc (Blk.far (Blk.far k1 (by exact hne) _) (by exact hne) _) _) 1
 · exact Blk.drewN (Blk.alloc (Blk.is (Blk.put (Blk.put k2 0 _) 1 _) rfl) _) 1
 · exact below_drewN (Below.alloc (Below.setCell (Below.setCell k3 hhB _) hhB _) (by simp [World.setCell];omega) _) 1
end Go.Proofs.YtjhbgkakhaonaaaGreatDoor
namespace Go.Proofs.YtjhbgkakhaonaaaGreatDoor
open Go Go.RowKit
open Ab
namespace Rd
def shP (r:Node × Int × Nat):V:=.tup [nodeV r.1,.agg [fI .i64 r.2.1,fI .i64 (r.2.2:Nat)]]
def zeroC:List V:=[fI .i64 0,fI .u64 0,fI .u64 0,fI .u64 0,fI .u64 0,.t (.flat (.slice none 0 0)),fI .i64 0,fI .i64 0]
def parS (s:ByteArray):St:=⟨[fS s,.junk,.ptr 0 0,.ptr 1 0,.junk,.junk,.junk,.junk,.junk,.junk,.junk,.junk,.junk,.junk,.junk,.junk,.junk,.junk,.junk,.junk,.junk,.junk,.junk,.junk,.junk,.junk,.junk],[some (.box 48 zeroC),some (.box 55 [fI .i64 0,fI .i64 0])],0⟩
def parQ (s:ByteArray) (v:V) (e:Ex) (t:St):Prop:=match e with
 | .ret=>∃r v',resV lay Tryz.f24.results.toList t=some r∧r.frz t.heap=some v'∧nrm v'=v
 | .normal=>s.size≤256∧t.le (parS s)
 | _=>False
def parQ2 (s:ByteArray) (v:V) (e:Ex) (t:St):Prop:=e=.ret∧∃r v',resV lay Tryz.f24.results.toList t=some r∧r.frz t.heap=some v'∧nrm v'=v
theorem zero_v:nodeV Rx.zero=.agg [fI .i64 0,fI .u64 0,fI .u64 0,fI .u64 0,fI .u64 0,.t (.slc []),fI .i64 0,fI .i64 0]:=by
 unfold nodeV ns Rx.zero;show nsV ⟨0,CSet.empty,nodeRows [],0,0⟩=_;unfold nodeRows;rfl
theorem ptr_at {cx:Cx} {w:World} {cs:List V} {vs:Array Value} {i id:Nat} (h:VReps cx w cs vs) (hi:cs[i]?=some (.ptr id 0)):∃b cap es len,vs[i]?=some (.pointer (some ⟨b,0,none⟩))∧cx.at_ id=some (.at b cap es len):=by
 have hlt:i<vs.size:=by rw [h.1];exact (List.getElem?_eq_some_iff.1 hi).1
 have:=h.2 i _ vs[i] hi (Array.getElem?_eq_getElem hlt)
 cases hv:vs[i] with
 | pointer p=>
   rw [hv] at this
   cases this with
   | ptr id off b cap es len h'=>exact ⟨b,cap,es,len,by rw [Array.getElem?_eq_getElem hlt,hv],h'⟩
 | _=>rw [hv] at this;cases this
def parPan (s:ByteArray) (v:V) (t:St):Prop:=∃(e:Int) (p:Nat),Rx.parse s.data.toList=(Rx.zero,e,p)∧v=faultV e (p:Nat)∧t.tmps[2]?=some (.ptr 0 0)∧t.tmps[3]?=some (.ptr 1 0)∧∃cs0 cs1,t.heap[0]?=some (some (.box 48 cs0))∧cs0.length=8∧t.heap[1]?=some (some (.box 55 cs1))∧cs1.length=2
theorem par_bad {l:List UInt8} {e:Int} {p:Nat} (hl:l.length≤256) (h:Rx.alt l (Rx.atom l 16) 0=.bad e p):Rx.parse l=(Rx.zero,e,p):=by unfold Rx.parse;rw [if_neg (by omega),h]
theorem par_ok {l:List UInt8} {n:Node} {p:Nat} (hl:l.length≤256) (h:Rx.alt l (Rx.atom l 16) 0=.ok n p) (hp:¬ p<l.length):Rx.parse l=(n,0,0):=by unfold Rx.parse;rw [if_neg (by omega),h];exact if_neg hp
theorem par_more {l:List UInt8} {n:Node} {e:Int} {p q:Nat} (hl:l.length≤256) (h:Rx.alt l (Rx.atom l 16) 0=.ok n p) (hp:p<l.length) (h2:(Rx.other l p:Res Node)=.bad e q):Rx.parse l=(Rx.zero,e,q):=by unfold Rx.parse;rw [if_neg (by omega),h];dsimp only;rw [if_pos hp,h2]
theorem fault_u {cx:Cx} {w:World} {e p:Int} {u:Value} (h:VRep cx w (faultV e p) u):u=.iface 89 (.agg #[.int .i64 e,.int .i64 p]):=by
 unfold faultV at h
 cases h with
 | ifc t v u h=>
   cases h with
   | agg cs vs hn hc hr=>
     obtain ⟨l⟩:=vs
     match l,hn with
     | [a,b],_=>
       have h0:=inv_flat (hr 0 _ a rfl rfl)
       have h1:=inv_flat (hr 1 _ b rfl rfl)
       rw [h0,h1]
theorem box_at {cx:Cx} {heap:List (Option Row)} {w:World} (H:HRep cx heap w) {id ty:Nat} {cs:List V} {b cap es len:Nat} (hr:heap[id]?=some (some (.box ty cs))) (hat:cx.at_ id=some (.at b cap es len)):∃vs,w.heap[b]?=some (.cells vs ty (0,0))∧vs.size=cs.length:=by
 have:=H.row id _ hr
 cases this with
 | box ty cs b' vs hat' hbl hn hrr=>rw [hat] at hat';cases hat';exact ⟨vs,hbl,hrr.1⟩
theorem flats {cx:Cx} {w:World}:∀(l:List Value),(∀v∈l,oneV v=true)→∀(i:Nat) (c:V) (u:Value),(l.map fun v=>V.t (.flat v))[i]?=some c→l.toArray[i]?=some u→VRep cx w c u:=by
 intro l hl i c u h1 h2
 rw [List.getElem?_toArray] at h2
 rw [List.getElem?_map,h2] at h1
 cases h1
 exact rep_flat (hl u (List.mem_of_getElem? h2))
theorem zero_rep (cx:Cx) (w:World) (e:Int) (p:Nat):VRep cx w (shP (Rx.zero,e,p)) (.tuple #[.agg #[.int .i64 0,.int .u64 0,.int .u64 0,.int .u64 0,.int .u64 0,.slice none 0 0,.int .i64 0,.int .i64 0],.agg #[.int .i64 e,.int .i64 (p:Nat)]]):=by
 have hv:VRep cx w (.tup [.agg zeroC,.agg [fI .i64 e,fI .i64 (p:Nat)]]) (.tuple #[.agg #[.int .i64 0,.int .u64 0,.int .u64 0,.int .u64 0,.int .u64 0,.slice none 0 0,.int .i64 0,.int .i64 0],.agg #[.int .i64 e,.int .i64 (p:Nat)]]):=by
  refine .tup _ _ rfl fun i c u h1 h2=>?_
  match i with
  | 0=>
    cases h1;cases h2
    exact .agg _ _ rfl (by decide) (fun i c u h1 h2=>flats [.int .i64 0,.int .u64 0,.int .u64 0,.int .u64 0,.int .u64 0,.slice none 0 0,.int .i64 0,.int .i64 0] (by decide) i c u h1 h2)
  | 1=>
    cases h1;cases h2
    exact .agg _ _ rfl (by intro c hc;simp at hc;rcases hc with rfl | rfl<;>rfl) (fun i c u h1 h2=>flats [.int .i64 e,.int .i64 (p:Nat)] (by intro v hv;simp at hv;rcases hv with rfl | rfl<;>rfl) i c u h1 h2)
  | i+2=>cases h1
 have:=nrm_le _ _ _ _ hv
 rw [show nrm (.tup [.agg zeroC,.agg [fI .i64 e,fI .i64 (p:Nat)]])=shP (Rx.zero,e,p) by unfold shP;rw [zero_v];rfl] at this
 exact this
theorem parse_f (s:ByteArray):FunS Tryz.prog 24 [fS s] shP (Rx.parse s.data.toList):=by
 refine ⟨Tryz.call24,fun G w cargs hG hT hargs=>?_⟩
 refine calls_of_wp_defers Tryz.func24 rfl ?_
 refine defer_wp lay_ok (start_rel (fn:=Tryz.f24) (pan:=fun _ _=>False) hG hT hargs) rfl (Q1:=parQ s (shP (Rx.parse s.data.toList))) ?_ (fun v t h=>h) ?_ ?_
 · obtain ⟨E,hE⟩:∃E,dom Tryz.prog ⟨w,fun _=>False,G,fun _=>none,0,fun _ _=>False,[]⟩=E:=⟨_,rfl⟩
   rw [hE]
   have hf:∀id,E.free id:=fun id=>by subst hE;rfl
   have hQr:∀t r v',resV lay Tryz.f24.results.toList t=some r→r.frz t.heap=some v'→nrm v'=shP (Rx.parse s.data.toList)→parQ s (shP (Rx.parse s.data.toList)) .ret t:=fun t r v' h1 h2 h3=>⟨r,v',h1,h2,h3⟩
   have hQn:∀t,s.size≤256→t.le (parS s)→parQ s (shP (Rx.parse s.data.toList)) .normal t:=fun t h1 h2=>⟨h1,h2⟩
   generalize parQ s (shP (Rx.parse s.data.toList))=Q at *
   have hbig:(256:Int)<(s.size:Int)→Rx.parse s.data.toList=(Rx.zero,3,256):=fun h=>by
    unfold Rx.parse; rw [if_pos (by have:s.data.toList.length=s.size:=by simp
                                    omega)]
   have hsm:¬(256:Int)<(s.size:Int)→s.size≤256:=fun h=>by omega
   have el:=e_slen hE s
   cbv
   refine c_gtr hE (fun h=>?_) (fun h=>?_)<;>cbv
   · have h':(256:Int)<E.slen s:=h
     rw [el] at h'
     exact hQr _ _ _ rfl rfl (by rw [hbig h'];unfold shP;rw [zero_v];rfl)
   · have h':¬(256:Int)<E.slen s:=h
     rw [el] at h'
     exact hQn _ (hsm h') (by cbv;repeat' first | exact trivial | rfl | constructor)
 · intro e e' t cx a w1 hne hr hq R
   cases e' with
   | ret=>
     cases e<;>first | exact hr.elim | skip
     obtain ⟨r,v',g1,g2,g3⟩:=hq
     show Leaves _ _ a.tmps _ a.defers .returning w1
     rw [R.df]
     obtain ⟨u,k1,k2⟩:=run_results (P:=Tryz.prog) lay_ok R.tm (fun id r hr=>R.hp.row id r (getD_row hr)) g1
     refine ⟨u,k1,u,rfl,⟨R.kp.os,R.kp.tape,R.kp.output,R.kp.size,fun b hb=>R.kp.block b hb (fun h=>h)⟩,?_⟩
     exact ((g3▸nrm_le v') _ _ _ (frz_rep R.hp k2 g2)).mono (Same.refl _ _) (none_le _ _ fun b hb=>R.kp.frzG R.hp (fun _ _ _ _ _ _ _ _ _ _ h=>h) (fun _ _ h=>h) b hb)
   | normal=>cases e<;>first | exact hr.elim | exact absurd rfl hne
   | _=>exact hq.elim
 · intro t cx a w1 hq R hdef
   obtain ⟨h256,hle⟩:=hq
   obtain ⟨cx1,R1⟩:=R.loose hle
   obtain ⟨b0,cap0,es0,len0,t2,at0⟩:=ptr_at R1.tm (i:=2) rfl
   obtain ⟨b1,cap1,es1,len1,t3,at1⟩:=ptr_at R1.tm (i:=3) rfl
   have hmf:∀(fn:Fn) (first cap:Array Value) (w:World),(Instr.makeFunc fn first cap).run Tryz.prog w=.ok (.func fn first cap) w:=fun _ _ _ _=>rfl
   refine wp_region ?_
   have hsz:a.tmps.size=27:=R1.tm.1
   have q2:a.tmps[2]'(by rw [hsz];decide)=.pointer (some ⟨b0,0,none⟩):=by
    rw [Array.getElem?_eq_getElem (by rw [hsz];decide)] at t2;exact Option.some.inj t2
   have q3:a.tmps[3]'(by rw [hsz];decide)=.pointer (some ⟨b1,0,none⟩):=by
    rw [Array.getElem?_eq_getElem (by rw [hsz];decide)] at t3;exact Option.some.inj t3
   simp [wpOps,go_sem,hmf,q2,q3,hdef,hsz,Oper.upon_defer,Act.put,Exit.then]
   refine Or.inl (Or.inl ?_)
   have R2:=R1.again (fun i=>rfl) 2 (Nat.le_refl 2) (parPan s) [{target:=.fn (.func 54) #[.pointer (some ⟨b0,0,none⟩),.pointer (some ⟨b1,0,none⟩)],args:=#[]}] 10 (.func (.func 54) #[] #[.pointer (some ⟨b0,0,none⟩),.pointer (some ⟨b1,0,none⟩)])
   refine wp_mono (pwp_sound lay_ok _ _ (parQ2 s (shP (Rx.parse s.data.toList))) ?_ _ _ _ R2) fun e a2 w2 h=>?_
   · generalize hA:(⟨w,fun _=>False,G,fun i=>if i<2 then cx1.at_ i else none,2,parPan s,[{target:=.fn (.func 54) #[.pointer (some ⟨b0,0,none⟩),.pointer (some ⟨b1,0,none⟩)],args:=#[]}]⟩:Run)=A1
     obtain ⟨E,hE⟩:∃E,dom Tryz.prog A1=E:=⟨_,rfl⟩
     have hf:∀id,2≤id→E.free id:=fun id h=>by subst hE hA;show (if id<2 then cx1.at_ id else none)=none;exact if_neg (by omega)
     have hP:∀v t (e:Int) (p:Nat),Rx.parse s.data.toList=(Rx.zero,e,p)→v=faultV e (p:Nat)→t.tmps[2]?=some (.ptr 0 0)→t.tmps[3]?=some (.ptr 1 0)→(∃cs0 cs1,t.heap[0]?=some (some (.box 48 cs0))∧cs0.length=8∧t.heap[1]?=some (some (.box 55 cs1))∧cs1.length=2)→E.pan v t:=fun v t e p h1 h2 h3 h4 h5=>by
      subst hE hA;exact ⟨by rw [h2];rfl,e,p,h1,h2,h3,h4,h5⟩
     have hQ:∀t r v',resV lay Tryz.f24.results.toList t=some r→r.frz t.heap=some v'→nrm v'=shP (Rx.parse s.data.toList)→parQ2 s (shP (Rx.parse s.data.toList)) .ret t:=fun t r v' h1 h2 h3=>⟨rfl,r,v',h1,h2,h3⟩
     rw [hE]
     generalize parQ2 s (shP (Rx.parse s.data.toList))=Q at *
     have hl:s.data.toList.length=s.size:=by simp
     have hfn:=fine_atom s.data.toList 16
     have A1:=alt_c s 0 (i:=0) (I:=0) (atom_c s (by omega) 16 0 rfl (by decide)) hfn (Rx.size_atom s.data.toList 16) rfl (Nat.zero_le _) (by omega)
     have F1:=fine_alt s.data.toList _ hfn 0 (Nat.zero_le _)
     have hls:s.data.toList.length≤256:=by omega
     generalize hr1:Rx.alt s.data.toList (Rx.atom s.data.toList 16) 0=r1 at *
     have el:=e_slen hE s
     clear hmf R2 R1 R hle q2 q3 t2 t3
     cbv
     refine use_rn hE A1 rfl rfl rfl rfl rfl (fine0_ne F1) (fun n p J x hr hJ hx=>?_) (fun e p X hr hX=>?_)
     case refine_2=>
      cbv
      exact hP _ _ e p (par_bad hls (hr1.trans hr)) (by rw [←hX];rfl) rfl rfl ⟨_,_,rfl,rfl,rfl,rfl⟩
     have hlt:J<(s.size:Int)→p<s.data.toList.length:=by omega
     have hge:¬ J<(s.size:Int)→¬ p<s.data.toList.length:=by omega
     have W1:=wrong_c s 0 nodeV hJ
     have O1:=other_bad (α:=Node) s.data.toList p
     cbv
     refine c_lss hE (fun h=>?_) (fun h=>?_)<;>cbv
     · have h':J<E.slen s:=h
       rw [el] at h'
       refine use_bad hE W1 rfl rfl rfl rfl rfl O1 (fun e q X hr2 hX=>?_)
       cbv
       exact hP _ _ e q (par_more hls (hr1.trans hr) (hlt h') hr2) (by rw [←hX];rfl) rfl rfl ⟨_,_,rfl,rfl,rfl,rfl⟩
     · have h':¬ J<E.slen s:=h
       rw [el] at h'
       exact hQ _ _ _ rfl rfl (by rw [par_ok hls (hr1.trans hr) (hge h')];unfold shP;show _=V.tup [nsV (ns n),_];rw [←hx];rfl)
   rcases h with ⟨e',t2,cx2,g1,⟨rfl,r,v',g2,g3,g4⟩,R3⟩ | ⟨ch,rfl,v,u,t2,cx2,rfl,hcl,⟨ee,p,hp,rfl,q2,q3,cs0,cs1,r0,l0,r1,l1⟩,hrep,R3⟩
   · cases e<;>first | exact g1.elim | skip
     show Leaves _ _ a2.tmps _ a2.defers .returning w2
     rw [R3.df]
     refine leaves_cons (f:=54) (args:=#[.pointer (some ⟨b0,0,none⟩),.pointer (some ⟨b1,0,none⟩)]) (by simp) (by simp [go_sem]) ?_
     refine (catch_idle b0 b1 w2).mono ?_
     rintro x u' w3 ⟨rfl,rfl,rfl⟩
     show Leaves _ _ _ _ [] .returning w3
     obtain ⟨u,k1,k2⟩:=run_results (P:=Tryz.prog) lay_ok R3.tm (fun id r hr=>R3.hp.row id r (getD_row hr)) g2
     refine ⟨u,k1,u,rfl,⟨R3.kp.os,R3.kp.tape,R3.kp.output,R3.kp.size,fun b hb=>R3.kp.block b hb (fun h=>h)⟩,?_⟩
     exact ((g4▸nrm_le v') _ _ _ (frz_rep R3.hp k2 g3)).mono (Same.refl _ _) (none_le _ _ fun b hb=>R3.kp.frzG R3.hp (fun _ _ _ _ _ _ _ _ _ _ h=>h) (fun _ _ h=>h) b hb)
   · show Leaves _ _ a2.tmps _ a2.defers (.panicking _) w2
     rw [R3.df]
     obtain rfl:=fault_u hrep
     obtain ⟨b0',_,_,_,s2,a0'⟩:=ptr_at R3.tm q2
     obtain ⟨b1',_,_,_,s3,a1'⟩:=ptr_at R3.tm q3
     have e0:=(R3.kp.pin 0 _ (show (if 0<2 then cx1.at_ 0 else none)=some (.at b0 cap0 es0 len0) from at0)).1
     have e1:=(R3.kp.pin 1 _ (show (if 1<2 then cx1.at_ 1 else none)=some (.at b1 cap1 es1 len1) from at1)).1
     rw [e0] at a0'
     rw [e1] at a1'
     cases a0'
     cases a1'
     have hne:b0≠b1:=fun e=>by
      subst e
      exact absurd (R3.hp.inj _ _ _ _ _ _ _ _ _ _ _ r0 r1 e0 e1) (by decide)
     have hB0:w.heap.size≤b0:=(R3.kp.live 0 _ _ _ _ _ r0 e0).resolve_left (fun h=>h)
     have hB1:w.heap.size≤b1:=(R3.kp.live 1 _ _ _ _ _ r1 e1).resolve_left (fun h=>h)
     obtain ⟨vs0,g0,z0⟩:=box_at R3.hp r0 e0
     obtain ⟨vs1,g1,z1⟩:=box_at R3.hp r1 e1
     rw [l0] at z0
     rw [l1] at z1
     obtain ⟨⟨v0⟩,rfl⟩:∃a,a=vs0:=⟨vs0,rfl⟩
     obtain ⟨⟨v1⟩,rfl⟩:∃a,a=vs1:=⟨vs1,rfl⟩
     match v0,z0,v1,z1 with
     | [c0,c1,c2,c3,c4,c5,c6,c7],_,[d0,d1],_=>
     refine leaves_cons (f:=54) (args:=#[.pointer (some ⟨b0,0,none⟩),.pointer (some ⟨b1,0,none⟩)]) (by simp) (by simp [go_sem]) ?_
     refine (catch_fault b0 b1 ee p [] w2 w.heap.size c0 c1 c2 c3 c4 c5 c6 c7 d0 d1 g0 g1 hB0 hB1 hne).mono ?_
     rintro x u' w3 ⟨rfl,rfl,hg2,hh2,hb2⟩
     show Leaves _ _ _ _ [] .returning w3
     (have r0:w3.cell? ⟨b0,0,none⟩=some (.int .i64 0):=hg2.cell 0;have r1:w3.cell? ⟨b0,1,none⟩=some (.int .u64 0):=hg2.cell 1;have r2:w3.cell? ⟨b0,2,none⟩=some (.int .u64 0):=hg2.cell 2;have r3:w3.cell? ⟨b0,3,none⟩=some (.int .u64 0):=hg2.cell 3;have r4:w3.cell? ⟨b0,4,none⟩=some (.int .u64 0):=hg2.cell 4;have r5:w3.cell? ⟨b0,5,none⟩=some (.slice none 0 0):=hg2.cell 5;have r6:w3.cell? ⟨b0,6,none⟩=some (.int .i64 0):=hg2.cell 6;have r7:w3.cell? ⟨b0,7,none⟩=some (.int .i64 0):=hg2.cell 7;have rf:∀i,w3.frozen? ⟨b0,i,none⟩=false:=hg2.frozen)
     have k0:w3.cell? ⟨b1,0,none⟩=some (.int .i64 ee):=hh2.cell 0
     have k1:w3.cell? ⟨b1,1,none⟩=some (.int .i64 (p:Nat)):=hh2.cell 1
     have h2:a2.tmps[2]?.getD undef=.pointer (some ⟨b0,0,none⟩):=by rw [s2];rfl
     have h3:a2.tmps[3]?.getD undef=.pointer (some ⟨b1,0,none⟩):=by rw [s3];rfl
     refine ⟨.tuple #[.agg #[.int .i64 0,.int .u64 0,.int .u64 0,.int .u64 0,.int .u64 0,.slice none 0 0,.int .i64 0,.int .i64 0],.agg #[.int .i64 ee,.int .i64 (p:Nat)]],?_,_,rfl,?_,?_⟩
     · simp [results,Tryz.results24,go_sem,h2,h3,r0,r1,r2,r3,r4,r5,r6,r7,k0,k1]
     · exact Below.trans ⟨R3.kp.os,R3.kp.tape,R3.kp.output,R3.kp.size,fun b hb=>R3.kp.block b hb (fun h=>h)⟩ hb2
     · rw [hp]
       exact zero_rep _ w3 ee p
end Rd
end Go.Proofs.YtjhbgkakhaonaaaGreatDoor
namespace Go.Proofs.YtjhbgkakhaonaaaGreatDoor.Bl
open Go Go.RowKit
theorem cc_used (b:Nat) (w:World) (h0:w.cell? ⟨b,0,none⟩=some (.pointer (some ⟨b,0,none⟩))):
 Calls Tryz.prog 105 #[.pointer (some ⟨b,0,none⟩)] w fun e w'=>e=.returned (.tuple #[])∧w'=w:=by
 obtain ⟨j,hj,_⟩:=Option.map_eq_some_iff.1 (show (Tryz.prog.info? 131).map (·.size)=some 2 by kernel_rfl)
 go_enter Tryz.func105,Tryz.ntmps105
 go_wp2
 rw [Lib.run_neq_ptr_same w _ Tryz.underlying128 hj]
 go_wp2
 go_end0
 exact ⟨rfl,rfl⟩
theorem cc_fresh (b:Nat) (w:World) (h0:w.cell? ⟨b,0,none⟩=some (.pointer none)) (hsh:w.shape? b=some (131,2)) (hfz:w.frozen? ⟨b,0,none⟩=false):
 Calls Tryz.prog 105 #[.pointer (some ⟨b,0,none⟩)] w fun e w'=>e=.returned (.tuple #[])∧w'=w.setCell ⟨b,0,none⟩ (.pointer (some ⟨b,0,none⟩)):=by
 obtain ⟨j,hj,hjs⟩:=Option.map_eq_some_iff.1 (show (Tryz.prog.info? 131).map (·.size)=some 2 by kernel_rfl)
 go_enter Tryz.func105,Tryz.ntmps105
 go_wp2
 rw [Lib.run_to_unsafe w ⟨b,0,none⟩ Tryz.underlying128 Tryz.underlying155 hj (by rw [hjs];decide) hsh (Nat.zero_lt_succ 1)]
 simp only [Result.andThen]
 rw [Oper.upon_value]
 go_wp2
 rw [run_callFunc_extern Tryz.func120 (by kernel_rfl) (by kernel_rfl) (by kernel_rfl) (e:=Extern.AbiNoEscape.same) (by kernel_rfl)]
 rw [Lib.run_noEscape]
 simp only [Result.andThen]
 rw [Oper.upon_value]
 go_wp2
 rw [Lib.run_from_unsafe w ⟨b,0,none⟩ Tryz.underlying155 Tryz.underlying128 hj hsh (by kernel_rfl)]
 simp only [Result.andThen]
 rw [Oper.upon_value]
 go_wp2
 go_end0
 exact ⟨rfl,rfl⟩
def But1 (g:Nat) (w w':World):Prop:=w'.os=w.os∧w'.tape=w.tape∧w'.output=w.output∧w.heap.size≤w'.heap.size∧∀k,k<w.heap.size→k≠g→w'.heap[k]?=w.heap[k]?
theorem but_freeze (g n:Nat) (w:World):But1 g w (w.drew.freeze ⟨g,0,none⟩ n):=by
 unfold World.freeze
 split
 · exact ⟨rfl,rfl,rfl,Nat.le_refl _,fun k _ _=>rfl⟩
 · refine ⟨rfl,rfl,rfl,Nat.le_of_eq (Array.size_modify ..).symm,fun k hk hne=>?_⟩
   show (Array.modify _ _ _)[k]?=_
   rw [Array.getElem?_modify,if_neg (fun e=>hne e.symm)]
   rfl
theorem str_row (b g cap:Nat) (p:Value) (cur:Array Value) (l:List UInt8) (w:World) (hbk:w.heap[b]?=some (.cells #[p,.slice (some ⟨g,0,none⟩) l.length cap] 131 (0,0))) (hg:w.heap[g]?=some (.cells cur 5 (0,0))) (hnc:l.length≤cap) (hcm:cap≤maxLen) (hcs:cur.size=cap)
 (hl:∀(j:Nat) (x:UInt8),l[j]?=some x→w.cell? ⟨g,j,none⟩=some (.int .u8 x.toNat)) (h0:l≠[]):
 Calls Tryz.prog 96 #[.pointer (some ⟨b,0,none⟩)] w fun e w'=>e=.returned (.string ⟨l.toArray⟩)∧But1 g w w':=by
 have hl0:l.length≠0:=by simpa using h0
 have c1:w.drew.cell? ⟨b,1,none⟩=some (.slice (some ⟨g,0,none⟩) l.length cap):=by
  have:w.drew.heap[b]?=some (.cells #[p,.slice (some ⟨g,0,none⟩) l.length cap] 131 (0,0)):=hbk
  rw [Lib.cell_of_heap this];rfl
 have hSD:(Builtin.unsafeSliceData_ #[129] 142 #[.slice (some ⟨g,0,none⟩) l.length cap]).run Tryz.prog w.drew=.ok (.pointer (some ⟨g,0,none⟩)) w.drew:=
  Lib.run_unsafeSliceData_row _ _ _ _ _ _ (by omega)
 have hUS:(Builtin.unsafeString_ #[142,3] 9 #[.pointer (some ⟨g,0,none⟩),.int .i64 l.length]).run Tryz.prog w.drew=.ok (.string ⟨l.toArray⟩) (w.drew.freeze ⟨g,0,none⟩ l.length):=by
  refine Lib.run_unsafeString_row w.drew 142 3 9 5 Tryz.underlying142 (by kernel_rfl) g cur.size (by have hg':w.drew.heap[g]?=some (.cells cur 5 (0,0)):=hg;simp [World.shape?,hg']) l h0 (by omega) (by unfold maxLen at hcm;omega) ?_
  intro j x hx
  have e:(⟨g,0,none⟩:Addr).add j=⟨g,j,none⟩:=by
   unfold Addr.add
   split
   · subst_vars;rfl
   · simp
  rw [e]
  exact hl j x hx
 have hB:=but_freeze g l.length w
 have mixed:Tryz.prog.follows .mixedOrders=true:=by kernel_rfl
 go_enter Tryz.func96,Tryz.ntmps96
 go_wp2
 go_region_o
 all_goals (go_wp2;go_ret;exact ⟨rfl,hB⟩)
theorem us_none (W:World) (q:Option Addr):(Builtin.unsafeString_ #[142,3] 9 #[.pointer q,.int .i64 0]).run Tryz.prog W=.ok (.string .empty) W:=Lib.run_unsafeString_none W _ _ _ q
theorem str_nil (b:Nat) (p:Value) (w:World) (hbk:w.heap[b]?=some (.cells #[p,.slice none 0 0] 131 (0,0))):
 Calls Tryz.prog 96 #[.pointer (some ⟨b,0,none⟩)] w fun e w'=>e=.returned (.string ⟨#[]⟩)∧Below w.heap.size w w':=by
 have hUS:=us_none
 have c1:w.drew.cell? ⟨b,1,none⟩=some (.slice none 0 0):=by
  have:w.drew.heap[b]?=some (.cells #[p,.slice none 0 0] 131 (0,0)):=hbk
  rw [Lib.cell_of_heap this];rfl
 have hSD:(Builtin.unsafeSliceData_ #[129] 142 #[.slice none 0 0]).run Tryz.prog w.drew=.ok (.pointer none) w.drew:=rfl
 have mixed:Tryz.prog.follows .mixedOrders=true:=by kernel_rfl
 go_enter Tryz.func96,Tryz.ntmps96
 go_wp2
 go_region_o
 all_goals (go_wp2;go_ret;exact ⟨rfl,Below.drew (Below.refl _ w)⟩)
theorem str_noroom (b g:Nat) (p:Value) (cur:Array Value) (w:World) (hbk:w.heap[b]?=some (.cells #[p,.slice (some ⟨g,0,none⟩) 0 0] 131 (0,0))) (hg:w.heap[g]?=some (.cells cur 5 (0,0))):
 Calls Tryz.prog 96 #[.pointer (some ⟨b,0,none⟩)] w fun e w'=>e=.returned (.string ⟨#[]⟩)∧Below w.heap.size w w':=by
 have hUS:=us_none
 have hlt:b<w.heap.size:=by
  rcases Nat.lt_or_ge b w.heap.size with h' | h'
  · exact h'
  · simp [Array.getElem?_eq_none h'] at hbk
 have c1:w.drew.cell? ⟨b,1,none⟩=some (.slice (some ⟨g,0,none⟩) 0 0):=by
  have:w.drew.heap[b]?=some (.cells #[p,.slice (some ⟨g,0,none⟩) 0 0] 131 (0,0)):=hbk
  rw [Lib.cell_of_heap this];rfl
 have hSD:(Builtin.unsafeSliceData_ #[129] 142 #[.slice (some ⟨g,0,none⟩) 0 0]).run Tryz.prog w.drew=.ok (.pointer (some ⟨w.drew.heap.size,0,none⟩)) (w.drew.alloc (.view ⟨g,0,none⟩ 5)):=
  Lib.run_unsafeSliceData_zero w.drew _ _ 5 Tryz.underlying142 ⟨g,0,none⟩ 0 (5,cur.size) (by have hg':w.drew.heap[g]?=some (.cells cur 5 (0,0)):=hg;simp [World.shape?,hg'])
 have c2:(w.drew.alloc (.view ⟨g,0,none⟩ 5)).cell? ⟨b,1,none⟩=some (.slice (some ⟨g,0,none⟩) 0 0):=by
  have:(w.drew.alloc (.view ⟨g,0,none⟩ 5)).heap[b]?=_:=(Lib.alloc_old w.drew _ b hlt).trans hbk
  rw [Lib.cell_of_heap this];rfl
 have c3:(w.alloc (.view ⟨g,0,none⟩ 5)).drew.cell? ⟨b,1,none⟩=some (.slice (some ⟨g,0,none⟩) 0 0):=c2
 have c0:w.cell? ⟨b,1,none⟩=some (.slice (some ⟨g,0,none⟩) 0 0):=c1
 have mixed:Tryz.prog.follows .mixedOrders=true:=by kernel_rfl
 go_enter Tryz.func96,Tryz.ntmps96
 go_wp2
 go_region_o
 all_goals (go_wp2;go_ret;exact ⟨rfl,(Below.drew (Below.refl _ w)).alloc (Nat.le_refl _) _⟩)
theorem str_room (b g cap:Nat) (p:Value) (w:World) (hc0:cap≠0) (hbk:w.heap[b]?=some (.cells #[p,.slice (some ⟨g,0,none⟩) 0 cap] 131 (0,0))):
 Calls Tryz.prog 96 #[.pointer (some ⟨b,0,none⟩)] w fun e w'=>e=.returned (.string ⟨#[]⟩)∧Below w.heap.size w w':=by
 have hUS:=us_none
 have c1:w.drew.cell? ⟨b,1,none⟩=some (.slice (some ⟨g,0,none⟩) 0 cap):=by
  have:w.drew.heap[b]?=some (.cells #[p,.slice (some ⟨g,0,none⟩) 0 cap] 131 (0,0)):=hbk
  rw [Lib.cell_of_heap this];rfl
 have hSD:(Builtin.unsafeSliceData_ #[129] 142 #[.slice (some ⟨g,0,none⟩) 0 cap]).run Tryz.prog w.drew=.ok (.pointer (some ⟨g,0,none⟩)) w.drew:=
  Lib.run_unsafeSliceData_row _ _ _ _ _ _ hc0
 clear hc0
 have mixed:Tryz.prog.follows .mixedOrders=true:=by kernel_rfl
 go_enter Tryz.func96,Tryz.ntmps96
 go_wp2
 go_region_o
 all_goals (go_wp2;go_ret;exact ⟨rfl,Below.drew (Below.refl _ w)⟩)
end Go.Proofs.YtjhbgkakhaonaaaGreatDoor.Bl
