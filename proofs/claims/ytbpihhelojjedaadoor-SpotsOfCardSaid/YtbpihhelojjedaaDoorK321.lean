/- Texts that the proof leans on. -/
import Derived.Recover
import Derived.Laws.Pointers
import Derived.Test.YtbpihhelojjedaaDoorK320
import Derived.Shelf.Small.Bits
import Derived.Shelf.Small.Wraps
import Derived.Shelf.Strconv.Itoa0
import Derived.Shelf.Sort.Plain
import Derived.Shelf.Slices.Turned
import Derived.Ground.Names2Prog
import Derived.Shelf.Slices.Clone
import Derived.Shelf.Slices.CompactI
import Derived.Shelf.Slices.SearchI
import Derived.Shelf.Slices.Cells
import Derived.Shelf.Slices.In.SortNone
import Derived.Ground.SlgnProg
import Derived.Shelf.SlicesE.Clone
import Derived.Lib.Builder
import Derived.Lib.UnsafeStr
import Derived.Shelf.RegionOpenPlain
import Derived.Laws.Externs
import Derived.Test.YtbpihhelojjedaaDoorRows
import Derived.Lib.LaidU8
import Derived.Lib.LaidTab
import Derived.Sort.EncStr
import Derived.Sort.Grow
import Derived.Shelf.SlSortCmp.NoneTotal
set_option linter.unusedVariables false
set_option linter.unusedSimpArgs false
set_option maxRecDepth 100000
set_option maxHeartbeats 4000000
namespace Go.Proofs.YtbpihhelojjedaaDoor
open Go Go.RowKit
structure Only (rb:Nat) (w w':World):Prop where
 os:w'.os=w.os
 tape:w'.tape=w.tape
 output:w'.output=w.output
 size:w.heap.size≤w'.heap.size
 block:∀k,k<w.heap.size→k≠rb→w'.heap[k]?=w.heap[k]?
section
variable {rb:Nat} {a w w':World}
theorem Only.refl (rb:Nat) (w:World):Only rb w w:=⟨rfl,rfl,rfl,Nat.le_refl _,fun _ _ _=>rfl⟩
theorem Only.set (h:Only rb a w) {p:Addr} (hp:p.block=rb∨a.heap.size≤p.block) (u:Value):Only rb a (w.setCell p u):=
 ⟨h.os,h.tape,h.output,by simpa [World.setCell] using h.size,fun i hi hne=>(Below.heap_setCell w p u i (by
  rintro rfl
  rcases hp with hp | hp
  · exact hne hp
  · omega)).trans (h.block i hi hne)⟩
theorem Only.blk {g:Nat} {t:TypeId} {cs:Array Value} (h:Only rb w w') (hg:g≠rb) (hb:Blk w g cs t):Blk w' g cs t:=(h.block g hb.lt hg).trans hb
end
theorem set8_only (rb:Nat) (w:World) (v0 v1 v2 v3 v4 v5 v6 v7:Value):Only rb w ((((((((w.setCell ⟨rb,0,none⟩ v0).setCell ⟨rb,1,none⟩ v1).setCell ⟨rb,2,none⟩ v2).setCell ⟨rb,3,none⟩ v3).setCell ⟨rb,4,none⟩ v4).setCell ⟨rb,5,none⟩ v5).setCell ⟨rb,6,none⟩ v6).setCell ⟨rb,7,none⟩ v7):=
 ((((((((Only.refl rb w).set (Or.inl rfl) _).set (Or.inl rfl) _).set (Or.inl rfl) _).set (Or.inl rfl) _).set (Or.inl rfl) _).set (Or.inl rfl) _).set (Or.inl rfl) _).set (Or.inl rfl) _
theorem Only.below {B rb:Nat} {w w':World} (h:Only rb w w') (h1:B≤rb) (h2:B≤w.heap.size):Below B w w':=⟨h.os,h.tape,h.output,h.size,fun k hk=>h.block k (by omega) (by omega)⟩
theorem Blk.put8 {w:World} {g t:Nat} {cs:Array Value} (h:Blk w g cs t) (hc:cs.size=8) (v0 v1 v2 v3 v4 v5 v6 v7:Value):Blk ((((((((w.setCell ⟨g,0,none⟩ v0).setCell ⟨g,1,none⟩ v1).setCell ⟨g,2,none⟩ v2).setCell ⟨g,3,none⟩ v3).setCell ⟨g,4,none⟩ v4).setCell ⟨g,5,none⟩ v5).setCell ⟨g,6,none⟩ v6).setCell ⟨g,7,none⟩ v7) g #[v0,v1,v2,v3,v4,v5,v6,v7] t:=by
 refine Blk.is ((((((((h.put 0 v0).put 1 v1).put 2 v2).put 3 v3).put 4 v4).put 5 v5).put 6 v6).put 7 v7) ?_
 obtain ⟨l⟩:=cs
 match l,hc with
 | [a0,a1,a2,a3,a4,a5,a6,a7],_=>rfl
theorem catch_idle (g h:Nat) (w:World):
 CallsD Tryd.prog 41 #[.pointer (some ⟨g,0,none⟩),.pointer (some ⟨h,0,none⟩)] .returning w fun e u' w'=>e=.returned (.tuple #[])∧u'=.returning∧w'=w:=by
 refine callsD_of_wpS Tryd.func41 rfl fun c₀ cs hu=>?_
 apply wpS_seq
 apply wpS_region
 simp [wpOpsS,go_sem,recoverD,hu,Tryd.ntmps41,Exit.thenS]
 refine wpS_of_wp ?_
 go_wp2
 cases c₀
 simp_all [bodyPostS,results,Tryd.results41]
theorem catch_fault (g h:Nat) (e p:Int) (older:List PanicEntry) (w:World) (B:Nat) (c0 c1 c2 c3 c4 c5 c6 c7 d0 d1:Value) (hg:Blk w g #[c0,c1,c2,c3,c4,c5,c6,c7] 35) (hh:Blk w h #[d0,d1] 44) (hgB:B≤g) (hhB:B≤h) (hne:g≠h):
 CallsD Tryd.prog 41 #[.pointer (some ⟨g,0,none⟩),.pointer (some ⟨h,0,none⟩)] (.panicking ({v:=.iface 71 (.agg #[.int .i64 e,.int .i64 p]),recovered:=false}::older)) w fun x u' w'=>
  x=.returned (.tuple #[])∧u'=.panicking ({v:=.iface 71 (.agg #[.int .i64 e,.int .i64 p]),recovered:=true}::older)∧Blk w' g #[.int .i64 0,.int .u64 0,.int .u64 0,.int .u64 0,.int .u64 0,.slice none 0 0,.int .i64 0,.int .i64 0] 35∧Blk w' h #[.int .i64 e,.int .i64 p] 44∧Below B w w':=by
 have g0:w.cell? ⟨g,0,none⟩=some c0:=hg.cell 0
 have g1:w.cell? ⟨g,1,none⟩=some c1:=hg.cell 1
 have g2:w.cell? ⟨g,2,none⟩=some c2:=hg.cell 2
 have g3:w.cell? ⟨g,3,none⟩=some c3:=hg.cell 3
 have g4:w.cell? ⟨g,4,none⟩=some c4:=hg.cell 4
 have g5:w.cell? ⟨g,5,none⟩=some c5:=hg.cell 5
 have g6:w.cell? ⟨g,6,none⟩=some c6:=hg.cell 6
 have g7:w.cell? ⟨g,7,none⟩=some c7:=hg.cell 7
 have gf:∀i,w.frozen? ⟨g,i,none⟩=false:=hg.frozen
 have h0:w.cell? ⟨h,0,none⟩=some d0:=hh.cell 0
 have h1:w.cell? ⟨h,1,none⟩=some d1:=hh.cell 1
 have hf:∀i,w.frozen? ⟨h,i,none⟩=false:=hh.frozen
 have hgl:g<w.heap.size:=hg.lt
 have hhl:h<w.heap.size:=hh.lt
 have hne2:¬ h=g:=fun e=>hne e.symm
 have HG:=hid_mk hg
 have HH:=hid_mk hh
 clear hg hh
 refine callsD_of_wpS Tryd.func41 rfl fun c₀ cs hu=>?_
 apply wpS_seq
 apply wpS_region
 simp [wpOpsS,go_sem,recoverD,hu,Tryd.ntmps41,Exit.thenS,Array.replicate,List.replicate]
 refine wpS_of_wp ?_
 have HU:=hid_mk hu
 have hta:∀w,(Instr.typeAssert (.iface 71 (.agg #[.int .i64 e,.int .i64 p])) 20 71 true).run Tryd.prog w=.ok (.tuple #[.agg #[.int .i64 e,.int .i64 p],.bool true]) w:=fun _=>by kernel_rfl
 clear hu
 go_wp2
 go_region
 go_wp2
 have hu:=HU.out
 simp [bodyPostS,results,Tryd.results41,go_sem]
 have k1:=HG.out.put8 rfl (.int .i64 0) (.int .u64 0) (.int .u64 0) (.int .u64 0) (.int .u64 0) (.slice none 0 0) (.int .i64 0) (.int .i64 0)
 have k2:=(set8_only g w (.int .i64 0) (.int .u64 0) (.int .u64 0) (.int .u64 0) (.int .u64 0) (.slice none 0 0) (.int .i64 0) (.int .i64 0)).blk hne2 HH.out
 have k3:=(set8_only g w (.int .i64 0) (.int .u64 0) (.int .u64 0) (.int .u64 0) (.int .u64 0) (.slice none 0 0) (.int .i64 0) (.int .i64 0)).below hgB (by omega)
 refine ⟨?_,?_,?_⟩
 · exact Blk.drewN (Blk.alloc (Blk.far (Blk.far k1 (by exact hne) _) (by exact hne) _) _) 1
 · exact Blk.drewN (Blk.alloc (Blk.is (Blk.put (Blk.put k2 0 _) 1 _) rfl) _) 1
 · exact below_drewN (Below.alloc (Below.setCell (Below.setCell k3 hhB _) hhB _) (by simp [World.setCell];omega) _) 1
end Go.Proofs.YtbpihhelojjedaaDoor
namespace Go.Proofs.YtbpihhelojjedaaDoor
open Go Go.RowKit
open Ab
namespace Rd
def shP (r:Node × Int × Nat):V:=.tup [nodeV r.1,.agg [fI .i64 r.2.1,fI .i64 (r.2.2:Nat)]]
def zeroC:List V:=[fI .i64 0,fI .u64 0,fI .u64 0,fI .u64 0,fI .u64 0,.t (.flat (.slice none 0 0)),fI .i64 0,fI .i64 0]
def parS (s:ByteArray):St:=⟨[fS s,.junk,.ptr 0 0,.ptr 1 0,.junk,.junk,.junk,.junk,.junk,.junk,.junk,.junk,.junk,.junk,.junk,.junk,.junk,.junk,.junk,.junk,.junk,.junk,.junk,.junk,.junk,.junk,.junk],[some (.box 35 zeroC),some (.box 44 [fI .i64 0,fI .i64 0])],0⟩
def parQ (s:ByteArray) (v:V) (e:Ex) (t:St):Prop:=match e with
 | .ret=>∃r v',resV lay Tryd.f19.results.toList t=some r∧r.frz t.heap=some v'∧nrm v'=v
 | .normal=>s.size≤256∧t.le (parS s)
 | _=>False
def parQ2 (s:ByteArray) (v:V) (e:Ex) (t:St):Prop:=e=.ret∧∃r v',resV lay Tryd.f19.results.toList t=some r∧r.frz t.heap=some v'∧nrm v'=v
theorem zero_v:nodeV Rx.zero=.agg [fI .i64 0,fI .u64 0,fI .u64 0,fI .u64 0,fI .u64 0,.t (.slc []),fI .i64 0,fI .i64 0]:=by
 unfold nodeV ns Rx.zero;show nsV ⟨0,CSet.empty,nodeRows [],0,0⟩=_;unfold nodeRows;rfl
theorem ptr_at {cx:Cx} {w:World} {cs:List V} {vs:Array Value} {i id:Nat} (h:VReps cx w cs vs) (hi:cs[i]?=some (.ptr id 0)):∃b cap es len,vs[i]?=some (.pointer (some ⟨b,0,none⟩))∧cx.at_ id=some (.at b cap es len):=by
 have hlt:i<vs.size:=by rw [h.1];exact (List.getElem?_eq_some_iff.1 hi).1
 have:=h.2 i _ vs[i] hi (Array.getElem?_eq_getElem hlt)
 cases hv:vs[i] with
 | pointer p=>
   rw [hv] at this
   cases this with
   | ptr id off b cap es len h'=>exact ⟨b,cap,es,len,by rw [Array.getElem?_eq_getElem hlt,hv],h'⟩
 | _=>rw [hv] at this;cases this
def parPan (s:ByteArray) (v:V) (t:St):Prop:=∃(e:Int) (p:Nat),Rx.parse s.data.toList=(Rx.zero,e,p)∧v=faultV e (p:Nat)∧t.tmps[2]?=some (.ptr 0 0)∧t.tmps[3]?=some (.ptr 1 0)∧∃cs0 cs1,t.heap[0]?=some (some (.box 35 cs0))∧cs0.length=8∧t.heap[1]?=some (some (.box 44 cs1))∧cs1.length=2
theorem par_bad {l:List UInt8} {e:Int} {p:Nat} (hl:l.length≤256) (h:Rx.alt l (Rx.atom l 16) 0=.bad e p):Rx.parse l=(Rx.zero,e,p):=by unfold Rx.parse;rw [if_neg (by omega),h]
theorem par_ok {l:List UInt8} {n:Node} {p:Nat} (hl:l.length≤256) (h:Rx.alt l (Rx.atom l 16) 0=.ok n p) (hp:¬ p<l.length):Rx.parse l=(n,0,0):=by unfold Rx.parse;rw [if_neg (by omega),h];exact if_neg hp
theorem par_more {l:List UInt8} {n:Node} {e:Int} {p q:Nat} (hl:l.length≤256) (h:Rx.alt l (Rx.atom l 16) 0=.ok n p) (hp:p<l.length) (h2:(Rx.other l p:Res Node)=.bad e q):Rx.parse l=(Rx.zero,e,q):=by unfold Rx.parse;rw [if_neg (by omega),h];dsimp only;rw [if_pos hp,h2]
theorem fault_u {cx:Cx} {w:World} {e p:Int} {u:Value} (h:VRep cx w (faultV e p) u):u=.iface 71 (.agg #[.int .i64 e,.int .i64 p]):=by
 unfold faultV at h
 cases h with
 | ifc t v u h=>
   cases h with
   | agg cs vs hn hc hr=>
     obtain ⟨l⟩:=vs
     match l,hn with
     | [a,b],_=>
       have h0:=inv_flat (hr 0 _ a rfl rfl)
       have h1:=inv_flat (hr 1 _ b rfl rfl)
       rw [h0,h1]
theorem box_at {cx:Cx} {heap:List (Option Row)} {w:World} (H:HRep cx heap w) {id ty:Nat} {cs:List V} {b cap es len:Nat} (hr:heap[id]?=some (some (.box ty cs))) (hat:cx.at_ id=some (.at b cap es len)):∃vs,w.heap[b]?=some (.cells vs ty (0,0))∧vs.size=cs.length:=by
 have:=H.row id _ hr
 cases this with
 | box ty cs b' vs hat' hbl hn hrr=>rw [hat] at hat';cases hat';exact ⟨vs,hbl,hrr.1⟩
theorem flats {cx:Cx} {w:World}:∀(l:List Value),(∀v∈l,oneV v=true)→∀(i:Nat) (c:V) (u:Value),(l.map fun v=>V.t (.flat v))[i]?=some c→l.toArray[i]?=some u→VRep cx w c u:=by
 intro l hl i c u h1 h2
 rw [List.getElem?_toArray] at h2
 rw [List.getElem?_map,h2] at h1
 cases h1
 exact rep_flat (hl u (List.mem_of_getElem? h2))
theorem zero_rep (cx:Cx) (w:World) (e:Int) (p:Nat):VRep cx w (shP (Rx.zero,e,p)) (.tuple #[.agg #[.int .i64 0,.int .u64 0,.int .u64 0,.int .u64 0,.int .u64 0,.slice none 0 0,.int .i64 0,.int .i64 0],.agg #[.int .i64 e,.int .i64 (p:Nat)]]):=by
 have hv:VRep cx w (.tup [.agg zeroC,.agg [fI .i64 e,fI .i64 (p:Nat)]]) (.tuple #[.agg #[.int .i64 0,.int .u64 0,.int .u64 0,.int .u64 0,.int .u64 0,.slice none 0 0,.int .i64 0,.int .i64 0],.agg #[.int .i64 e,.int .i64 (p:Nat)]]):=by
  refine .tup _ _ rfl fun i c u h1 h2=>?_
  match i with
  | 0=>
    cases h1;cases h2
    exact .agg _ _ rfl (by decide) (fun i c u h1 h2=>flats [.int .i64 0,.int .u64 0,.int .u64 0,.int .u64 0,.int .u64 0,.slice none 0 0,.int .i64 0,.int .i64 0] (by decide) i c u h1 h2)
  | 1=>
    cases h1;cases h2
    exact .agg _ _ rfl (by intro c hc;simp at hc;rcases hc with rfl | rfl<;>rfl) (fun i c u h1 h2=>flats [.int .i64 e,.int .i64 (p:Nat)] (by intro v hv;simp at hv;rcases hv with rfl | rfl<;>rfl) i c u h1 h2)
  | i+2=>cases h1
 have:=nrm_le _ _ _ _ hv
 rw [show nrm (.tup [.agg zeroC,.agg [fI .i64 e,fI .i64 (p:Nat)]])=shP (Rx.zero,e,p) by unfold shP;rw [zero_v];rfl] at this
 exact this
theorem parse_f (s:ByteArray):FunS Tryd.prog 19 [fS s] shP (Rx.parse s.data.toList):=by
 refine ⟨Tryd.call19,fun G w cargs hG hT hargs=>?_⟩
 refine calls_of_wp_defers Tryd.func19 rfl ?_
 refine defer_wp lay_ok (start_rel (fn:=Tryd.f19) (pan:=fun _ _=>False) hG hT hargs) rfl (Q1:=parQ s (shP (Rx.parse s.data.toList))) ?_ (fun v t h=>h) ?_ ?_
 · obtain ⟨E,hE⟩:∃E,dom Tryd.prog ⟨w,fun _=>False,G,fun _=>none,0,fun _ _=>False,[]⟩=E:=⟨_,rfl⟩
   rw [hE]
   have hf:∀id,E.free id:=fun id=>by subst hE;rfl
   have hQr:∀t r v',resV lay Tryd.f19.results.toList t=some r→r.frz t.heap=some v'→nrm v'=shP (Rx.parse s.data.toList)→parQ s (shP (Rx.parse s.data.toList)) .ret t:=fun t r v' h1 h2 h3=>⟨r,v',h1,h2,h3⟩
   have hQn:∀t,s.size≤256→t.le (parS s)→parQ s (shP (Rx.parse s.data.toList)) .normal t:=fun t h1 h2=>⟨h1,h2⟩
   generalize parQ s (shP (Rx.parse s.data.toList))=Q at *
   have hbig:(256:Int)<(s.size:Int)→Rx.parse s.data.toList=(Rx.zero,3,256):=fun h=>by
    unfold Rx.parse; rw [if_pos (by have:s.data.toList.length=s.size:=by simp
                                    omega)]
   have hsm:¬(256:Int)<(s.size:Int)→s.size≤256:=fun h=>by omega
   have el:=e_slen hE s
   cbv
   refine c_gtr hE (fun h=>?_) (fun h=>?_)<;>cbv
   · have h':(256:Int)<E.slen s:=h
     rw [el] at h'
     exact hQr _ _ _ rfl rfl (by rw [hbig h'];unfold shP;rw [zero_v];rfl)
   · have h':¬(256:Int)<E.slen s:=h
     rw [el] at h'
     exact hQn _ (hsm h') (by cbv;repeat' first | exact trivial | rfl | constructor)
 · intro e e' t cx a w1 hne hr hq R
   cases e' with
   | ret=>
     cases e<;>first | exact hr.elim | skip
     obtain ⟨r,v',g1,g2,g3⟩:=hq
     show Leaves _ _ a.tmps _ a.defers .returning w1
     rw [R.df]
     obtain ⟨u,k1,k2⟩:=run_results (P:=Tryd.prog) lay_ok R.tm (fun id r hr=>R.hp.row id r (getD_row hr)) g1
     refine ⟨u,k1,u,rfl,⟨R.kp.os,R.kp.tape,R.kp.output,R.kp.size,fun b hb=>R.kp.block b hb (fun h=>h)⟩,?_⟩
     exact ((g3▸nrm_le v') _ _ _ (frz_rep R.hp k2 g2)).mono (Same.refl _ _) (none_le _ _ fun b hb=>R.kp.frzG R.hp (fun _ _ _ _ _ _ _ _ _ _ h=>h) (fun _ _ h=>h) b hb)
   | normal=>cases e<;>first | exact hr.elim | exact absurd rfl hne
   | _=>exact hq.elim
 · intro t cx a w1 hq R hdef
   obtain ⟨h256,hle⟩:=hq
   obtain ⟨cx1,R1⟩:=R.loose hle
   obtain ⟨b0,cap0,es0,len0,t2,at0⟩:=ptr_at R1.tm (i:=2) rfl
   obtain ⟨b1,cap1,es1,len1,t3,at1⟩:=ptr_at R1.tm (i:=3) rfl
   have hmf:∀(fn:Fn) (first cap:Array Value) (w:World),(Instr.makeFunc fn first cap).run Tryd.prog w=.ok (.func fn first cap) w:=fun _ _ _ _=>rfl
   refine wp_region ?_
   have hsz:a.tmps.size=27:=R1.tm.1
   have q2:a.tmps[2]'(by rw [hsz];decide)=.pointer (some ⟨b0,0,none⟩):=by
    rw [Array.getElem?_eq_getElem (by rw [hsz];decide)] at t2;exact Option.some.inj t2
   have q3:a.tmps[3]'(by rw [hsz];decide)=.pointer (some ⟨b1,0,none⟩):=by
    rw [Array.getElem?_eq_getElem (by rw [hsz];decide)] at t3;exact Option.some.inj t3
   simp [wpOps,go_sem,hmf,q2,q3,hdef,hsz,Oper.upon_defer,Act.put,Exit.then]
   refine Or.inl (Or.inl ?_)
   have R2:=R1.again (fun i=>rfl) 2 (Nat.le_refl 2) (parPan s) [{target:=.fn (.func 41) #[.pointer (some ⟨b0,0,none⟩),.pointer (some ⟨b1,0,none⟩)],args:=#[]}] 10 (.func (.func 41) #[] #[.pointer (some ⟨b0,0,none⟩),.pointer (some ⟨b1,0,none⟩)])
   refine wp_mono (pwp_sound lay_ok _ _ (parQ2 s (shP (Rx.parse s.data.toList))) ?_ _ _ _ R2) fun e a2 w2 h=>?_
   · generalize hA:(⟨w,fun _=>False,G,fun i=>if i<2 then cx1.at_ i else none,2,parPan s,[{target:=.fn (.func 41) #[.pointer (some ⟨b0,0,none⟩),.pointer (some ⟨b1,0,none⟩)],args:=#[]}]⟩:Run)=A1
     obtain ⟨E,hE⟩:∃E,dom Tryd.prog A1=E:=⟨_,rfl⟩
     have hf:∀id,2≤id→E.free id:=fun id h=>by subst hE hA;show (if id<2 then cx1.at_ id else none)=none;exact if_neg (by omega)
     have hP:∀v t (e:Int) (p:Nat),Rx.parse s.data.toList=(Rx.zero,e,p)→v=faultV e (p:Nat)→t.tmps[2]?=some (.ptr 0 0)→t.tmps[3]?=some (.ptr 1 0)→(∃cs0 cs1,t.heap[0]?=some (some (.box 35 cs0))∧cs0.length=8∧t.heap[1]?=some (some (.box 44 cs1))∧cs1.length=2)→E.pan v t:=fun v t e p h1 h2 h3 h4 h5=>by
      subst hE hA;exact ⟨by rw [h2];rfl,e,p,h1,h2,h3,h4,h5⟩
     have hQ:∀t r v',resV lay Tryd.f19.results.toList t=some r→r.frz t.heap=some v'→nrm v'=shP (Rx.parse s.data.toList)→parQ2 s (shP (Rx.parse s.data.toList)) .ret t:=fun t r v' h1 h2 h3=>⟨rfl,r,v',h1,h2,h3⟩
     rw [hE]
     generalize parQ2 s (shP (Rx.parse s.data.toList))=Q at *
     have hl:s.data.toList.length=s.size:=by simp
     have hfn:=fine_atom s.data.toList 16
     have A1:=alt_c s 0 (i:=0) (I:=0) (atom_c s (by omega) 16 0 rfl (by decide)) hfn (Rx.size_atom s.data.toList 16) rfl (Nat.zero_le _) (by omega)
     have F1:=fine_alt s.data.toList _ hfn 0 (Nat.zero_le _)
     have hls:s.data.toList.length≤256:=by omega
     generalize hr1:Rx.alt s.data.toList (Rx.atom s.data.toList 16) 0=r1 at *
     have el:=e_slen hE s
     clear hmf R2 R1 R hle q2 q3 t2 t3
     cbv
     refine use_rn hE A1 rfl rfl rfl rfl rfl (fine0_ne F1) (fun n p J x hr hJ hx=>?_) (fun e p X hr hX=>?_)
     case refine_2=>
      cbv
      exact hP _ _ e p (par_bad hls (hr1.trans hr)) (by rw [←hX];rfl) rfl rfl ⟨_,_,rfl,rfl,rfl,rfl⟩
     have hlt:J<(s.size:Int)→p<s.data.toList.length:=by omega
     have hge:¬ J<(s.size:Int)→¬ p<s.data.toList.length:=by omega
     have W1:=wrong_c s 0 nodeV hJ
     have O1:=other_bad (α:=Node) s.data.toList p
     cbv
     refine c_lss hE (fun h=>?_) (fun h=>?_)<;>cbv
     · have h':J<E.slen s:=h
       rw [el] at h'
       refine use_bad hE W1 rfl rfl rfl rfl rfl O1 (fun e q X hr2 hX=>?_)
       cbv
       exact hP _ _ e q (par_more hls (hr1.trans hr) (hlt h') hr2) (by rw [←hX];rfl) rfl rfl ⟨_,_,rfl,rfl,rfl,rfl⟩
     · have h':¬ J<E.slen s:=h
       rw [el] at h'
       exact hQ _ _ _ rfl rfl (by rw [par_ok hls (hr1.trans hr) (hge h')];unfold shP;show _=V.tup [nsV (ns n),_];rw [←hx];rfl)
   rcases h with ⟨e',t2,cx2,g1,⟨rfl,r,v',g2,g3,g4⟩,R3⟩ | ⟨ch,rfl,v,u,t2,cx2,rfl,hcl,⟨ee,p,hp,rfl,q2,q3,cs0,cs1,r0,l0,r1,l1⟩,hrep,R3⟩
   · cases e<;>first | exact g1.elim | skip
     show Leaves _ _ a2.tmps _ a2.defers .returning w2
     rw [R3.df]
     refine leaves_cons (f:=41) (args:=#[.pointer (some ⟨b0,0,none⟩),.pointer (some ⟨b1,0,none⟩)]) (by simp) (by simp [go_sem]) ?_
     refine (catch_idle b0 b1 w2).mono ?_
     rintro x u' w3 ⟨rfl,rfl,rfl⟩
     show Leaves _ _ _ _ [] .returning w3
     obtain ⟨u,k1,k2⟩:=run_results (P:=Tryd.prog) lay_ok R3.tm (fun id r hr=>R3.hp.row id r (getD_row hr)) g2
     refine ⟨u,k1,u,rfl,⟨R3.kp.os,R3.kp.tape,R3.kp.output,R3.kp.size,fun b hb=>R3.kp.block b hb (fun h=>h)⟩,?_⟩
     exact ((g4▸nrm_le v') _ _ _ (frz_rep R3.hp k2 g3)).mono (Same.refl _ _) (none_le _ _ fun b hb=>R3.kp.frzG R3.hp (fun _ _ _ _ _ _ _ _ _ _ h=>h) (fun _ _ h=>h) b hb)
   · show Leaves _ _ a2.tmps _ a2.defers (.panicking _) w2
     rw [R3.df]
     obtain rfl:=fault_u hrep
     obtain ⟨b0',_,_,_,s2,a0'⟩:=ptr_at R3.tm q2
     obtain ⟨b1',_,_,_,s3,a1'⟩:=ptr_at R3.tm q3
     have e0:=(R3.kp.pin 0 _ (show (if 0<2 then cx1.at_ 0 else none)=some (.at b0 cap0 es0 len0) from at0)).1
     have e1:=(R3.kp.pin 1 _ (show (if 1<2 then cx1.at_ 1 else none)=some (.at b1 cap1 es1 len1) from at1)).1
     rw [e0] at a0'
     rw [e1] at a1'
     cases a0'
     cases a1'
     have hne:b0≠b1:=fun e=>by
      subst e
      exact absurd (R3.hp.inj _ _ _ _ _ _ _ _ _ _ _ r0 r1 e0 e1) (by decide)
     have hB0:w.heap.size≤b0:=(R3.kp.live 0 _ _ _ _ _ r0 e0).resolve_left (fun h=>h)
     have hB1:w.heap.size≤b1:=(R3.kp.live 1 _ _ _ _ _ r1 e1).resolve_left (fun h=>h)
     obtain ⟨vs0,g0,z0⟩:=box_at R3.hp r0 e0
     obtain ⟨vs1,g1,z1⟩:=box_at R3.hp r1 e1
     rw [l0] at z0
     rw [l1] at z1
     obtain ⟨⟨v0⟩,rfl⟩:∃a,a=vs0:=⟨vs0,rfl⟩
     obtain ⟨⟨v1⟩,rfl⟩:∃a,a=vs1:=⟨vs1,rfl⟩
     match v0,z0,v1,z1 with
     | [c0,c1,c2,c3,c4,c5,c6,c7],_,[d0,d1],_=>
     refine leaves_cons (f:=41) (args:=#[.pointer (some ⟨b0,0,none⟩),.pointer (some ⟨b1,0,none⟩)]) (by simp) (by simp [go_sem]) ?_
     refine (catch_fault b0 b1 ee p [] w2 w.heap.size c0 c1 c2 c3 c4 c5 c6 c7 d0 d1 g0 g1 hB0 hB1 hne).mono ?_
     rintro x u' w3 ⟨rfl,rfl,hg2,hh2,hb2⟩
     show Leaves _ _ _ _ [] .returning w3
     (have r0:w3.cell? ⟨b0,0,none⟩=some (.int .i64 0):=hg2.cell 0;have r1:w3.cell? ⟨b0,1,none⟩=some (.int .u64 0):=hg2.cell 1;have r2:w3.cell? ⟨b0,2,none⟩=some (.int .u64 0):=hg2.cell 2;have r3:w3.cell? ⟨b0,3,none⟩=some (.int .u64 0):=hg2.cell 3;have r4:w3.cell? ⟨b0,4,none⟩=some (.int .u64 0):=hg2.cell 4;have r5:w3.cell? ⟨b0,5,none⟩=some (.slice none 0 0):=hg2.cell 5;have r6:w3.cell? ⟨b0,6,none⟩=some (.int .i64 0):=hg2.cell 6;have r7:w3.cell? ⟨b0,7,none⟩=some (.int .i64 0):=hg2.cell 7;have rf:∀i,w3.frozen? ⟨b0,i,none⟩=false:=hg2.frozen)
     have k0:w3.cell? ⟨b1,0,none⟩=some (.int .i64 ee):=hh2.cell 0
     have k1:w3.cell? ⟨b1,1,none⟩=some (.int .i64 (p:Nat)):=hh2.cell 1
     have h2:a2.tmps[2]?.getD undef=.pointer (some ⟨b0,0,none⟩):=by rw [s2];rfl
     have h3:a2.tmps[3]?.getD undef=.pointer (some ⟨b1,0,none⟩):=by rw [s3];rfl
     refine ⟨.tuple #[.agg #[.int .i64 0,.int .u64 0,.int .u64 0,.int .u64 0,.int .u64 0,.slice none 0 0,.int .i64 0,.int .i64 0],.agg #[.int .i64 ee,.int .i64 (p:Nat)]],?_,_,rfl,?_,?_⟩
     · simp [results,Tryd.results19,go_sem,h2,h3,r0,r1,r2,r3,r4,r5,r6,r7,k0,k1]
     · exact Below.trans ⟨R3.kp.os,R3.kp.tape,R3.kp.output,R3.kp.size,fun b hb=>R3.kp.block b hb (fun h=>h)⟩ hb2
     · rw [hp]
       exact zero_rep _ w3 ee p
end Rd
end Go.Proofs.YtbpihhelojjedaaDoor
namespace Go.Proofs
open Go.Shelf
def Tryd.lays189_ren:Go.Shelf.Ren:=⟨fun | 189=>60 | 125=>69 | 257=>68 | 128=>84 | 129=>85 | 294=>75 | 295=>76 | 296=>77 | 297=>78 | 298=>79 | 299=>80 | 216=>81 | 300=>82 | 301=>83 | 328=>90 | 329=>91 | 330=>92 | 331=>93 | 332=>94 | 215=>95 | 343=>102 | n=>n,fun | 28=>23 | 3=>3 | 46=>98 | 0=>0 | 51=>112 | 53=>30 | 4=>4 | 183=>105 | 182=>104 | 131=>109 | 5=>5 | 9=>9 | 218=>118 | 222=>122 | 228=>127 | 229=>56 | n=>n,fun | n=>n⟩
theorem Tryd.lays189:Go.Proofs.Lays.n189 Tryd.prog Tryd.lays189_ren:={
 mixed:=by kernel_rfl
 f125:=Tryd.func69.trans (congrArg some (by kernel_rfl))
 f128:=Tryd.func84.trans (congrArg some (by kernel_rfl))
 f129:=Tryd.func85.trans (congrArg some (by kernel_rfl))
 f189:=Tryd.func60.trans (congrArg some (by kernel_rfl))
 f215:=Tryd.func95.trans (congrArg some (by kernel_rfl))
 f216:=Tryd.func81.trans (congrArg some (by kernel_rfl))
 f257:=Tryd.func68.trans (congrArg some (by kernel_rfl))
 f294:=Tryd.func75.trans (congrArg some (by kernel_rfl))
 f295:=Tryd.func76.trans (congrArg some (by kernel_rfl))
 f296:=Tryd.func77.trans (congrArg some (by kernel_rfl))
 f297:=Tryd.func78.trans (congrArg some (by kernel_rfl))
 f298:=Tryd.func79.trans (congrArg some (by kernel_rfl))
 f299:=Tryd.func80.trans (congrArg some (by kernel_rfl))
 f300:=Tryd.func82.trans (congrArg some (by kernel_rfl))
 f301:=Tryd.func83.trans (congrArg some (by kernel_rfl))
 f328:=Tryd.func90.trans (congrArg some (by kernel_rfl))
 f329:=Tryd.func91.trans (congrArg some (by kernel_rfl))
 f330:=Tryd.func92.trans (congrArg some (by kernel_rfl))
 f331:=Tryd.func93.trans (congrArg some (by kernel_rfl))
 f332:=Tryd.func94.trans (congrArg some (by kernel_rfl))
 f343:=Tryd.func102.trans (congrArg some (by kernel_rfl))
 t0:=Tryd.underlying0
 a0:=Tryd.isAgg0
 z0:=Tryd.sizeOf0
 v0:=Tryd.zeroValue0
 t3:=Tryd.underlying3
 a3:=Tryd.isAgg3
 z3:=Tryd.sizeOf3
 v3:=Tryd.zeroValue3
 t4:=Tryd.underlying4
 a4:=Tryd.isAgg4
 z4:=Tryd.sizeOf4
 v4:=Tryd.zeroValue4
 t5:=Tryd.underlying5
 a5:=Tryd.isAgg5
 z5:=Tryd.sizeOf5
 v5:=Tryd.zeroValue5
 t9:=Tryd.underlying9
 a9:=Tryd.isAgg9
 z9:=Tryd.sizeOf9
 v9:=Tryd.zeroValue9
 t28:=Tryd.underlying23
 a28:=Tryd.isAgg23
 z28:=Tryd.sizeOf23
 v28:=Tryd.zeroValue23
 t46:=Tryd.underlying98
 a46:=Tryd.isAgg98
 z46:=Tryd.sizeOf98
 v46:=Tryd.zeroValue98
 t51:=Tryd.underlying112
 a51:=Tryd.isAgg112
 z51:=Tryd.sizeOf112
 v51:=Tryd.zeroValue112
 t53:=Tryd.underlying30
 a53:=Tryd.isAgg30
 z53:=Tryd.sizeOf30
 v53:=Tryd.zeroValue30
 t131:=Tryd.underlying109
 a131:=Tryd.isAgg109
 z131:=Tryd.sizeOf109
 v131:=Tryd.zeroValue109
 t182:=Tryd.underlying104
 a182:=Tryd.isAgg104
 z182:=Tryd.sizeOf104
 v182:=Tryd.zeroValue104
 t183:=Tryd.underlying105
 a183:=Tryd.isAgg105
 z183:=Tryd.sizeOf105
 v183:=Tryd.zeroValue105
 t218:=Tryd.underlying118
 a218:=Tryd.isAgg118
 z218:=Tryd.sizeOf118
 v218:=Tryd.zeroValue118
 t222:=Tryd.underlying122
 a222:=Tryd.isAgg122
 z222:=Tryd.sizeOf122
 v222:=Tryd.zeroValue122
 t228:=Tryd.underlying127
 a228:=Tryd.isAgg127
 z228:=Tryd.sizeOf127
 v228:=Tryd.zeroValue127
 t229:=Tryd.underlying56
 a229:=Tryd.isAgg56
 z229:=Tryd.sizeOf56
 v229:=Tryd.zeroValue56}
open Go.Sort Go.RowKit in
theorem Tryd.slices_Sort_int (blk off cap:Nat) (zs:List Int) (w:World) (hH:Holds (Value.int .i64) w blk off zs.toArray) (hblk:blk<w.heap.size) (hsz:zs.length<4611686018427387904):
 Calls Tryd.prog 60 #[.slice (some ⟨blk,off,none⟩) zs.length cap] w fun e w'=>
  e=.returned (.tuple #[])∧∃n os,w'=grow (putRow (Value.int .i64) (Sort.ahead w n) blk off (zs.mergeSort fun x y=>decide (x≤y)).toArray) os:=Any.slices_Sort_int Tryd.lays189 blk off cap zs w hH hblk hsz
open Go.RowKit Go.Sort in
theorem Tryd.slices_Sort_int_none (p:Option Addr) (cap:Nat) (w:World):
 Calls Tryd.prog 60 #[.slice p 0 cap] w fun e w'=>e=.returned (.tuple #[])∧w'=w:=Any.slices_Sort_int_none Tryd.lays189 p cap w
end Go.Proofs
namespace Go.Proofs.YtbpihhelojjedaaDoor
open Go Go.RowKit
open Ab Sh
namespace Gn
def boolS (R:RF) (b:Bool):V:=shB b
def r12_Has_g (x:CSet) (b:Int):Option Bool:=if 0≤b∧b<256 then some (x.has b.toNat) else none
theorem r12_Has_w {x:CSet} {b:Int} {r:Bool} (h:r12_Has_g x b=some r):FunS Tryd.prog 27 [setV x,fI .i64 b] (boolS rw) r:=by
 unfold r12_Has_g at h
 split at h
 · cases h;exact f_rhas x (by omega) (by omega)
 · cases h
def charset_Has_g (x:CSet) (b:Int):Option Bool:=if 0≤b∧b<256 then some (x.has b.toNat) else none
theorem charset_Has_w {x:CSet} {b:Int} {r:Bool} (h:charset_Has_g x b=some r):FunS Tryd.prog 24 [setV x,fI .u8 b] (boolS rw) r:=by
 unfold charset_Has_g at h
 split at h
 · cases h;exact f_has x (by omega) (by omega)
 · cases h
def regex_Parse_g (s:ByteArray):Option (Node × GFault):=some ((Rx.parse s.data.toList).1,⟨(Rx.parse s.data.toList).2.1,((Rx.parse s.data.toList).2.2:Nat)⟩)
def regex_Parse_s (R:RF) (r:Node × GFault):V:=.tup [.agg [fI .i64 r.1.kind,fI .u64 (r.1.set.a.toNat:Int),fI .u64 (r.1.set.b.toNat:Int),fI .u64 (r.1.set.c.toNat:Int),fI .u64 (r.1.set.d.toNat:Int),.t (.slc (R _ nodeRow r.1.kids)),fI .i64 r.1.min,fI .i64 r.1.max],.agg [fI .i64 r.2.E,fI .i64 r.2.At]]
theorem regex_Parse_w {s:ByteArray} {r:Node × GFault} (h:regex_Parse_g s=some r):FunS Tryd.prog 19 [fS s] (regex_Parse_s rw) r:=by
 cases h
 have:=Rd.parse_f s
 unfold FunS at this ⊢
 have e:Rd.shP (Rx.parse s.data.toList)=regex_Parse_s rw ((Rx.parse s.data.toList).1,⟨(Rx.parse s.data.toList).2.1,((Rx.parse s.data.toList).2.2:Nat)⟩):=by
  generalize Rx.parse s.data.toList=r
  unfold Rd.shP nodeV nsV ns regex_Parse_s
  simp only [nodeRows_map]
  rfl
 rw [←e];exact this
end Gn
end Go.Proofs.YtbpihhelojjedaaDoor
namespace Go.Proofs.YtbpihhelojjedaaDoor
open Go Go.RowKit Go.Lib
open Ab Sh
namespace Lw
theorem lt_of_cell {w:World} {g j:Nat} {v:Value} (h:w.cell? ⟨g,j,none⟩=some v):g<w.heap.size:=by
 rcases Nat.lt_or_ge g w.heap.size with h4 | h4
 · exact h4
 · simp [World.cell?,Array.getElem?_eq_none h4] at h
theorem br_of {w:World} (h:VarReads Tryd.prog w "math/bits.deBruijn64tab" (Lib.tabData .u8 (Lib.deBruijn64tab.map Int.ofNat))) (j:Nat) (v:Value) (hv:(Lib.deBruijn64tab.map fun n=>Value.int .u8 (Int.ofNat n))[j]?=some v):w.cell? ⟨0,j,none⟩=some v:=by
 have c5:Tryd.prog.cellsOf 5=1:=by kernel_rfl
 obtain ⟨g,t,cs,fuel,p,hg,hty,hvar,hd⟩:=h
 obtain rfl:=Option.some.inj ((show Tryd.prog.globalNamed "math/bits.deBruijn64tab"=some 0 by kernel_rfl).symm.trans hg)
 obtain rfl:=Option.some.inj ((show (Tryd.prog.globals[0]?).map (·.type)=some 130 by kernel_rfl).symm.trans hty)
 have hcs:=cells_of_tab Tryd.underlying130 Tryd.underlying5 c5 (by kernel_rfl) hd
 rw [World.var?_cell hg hvar j,←Array.getElem?_toList,hcs,List.map_map]
 exact hv
theorem vflat {cx:Cx} {w:World} {v u:Value} (h:VRep cx w (.t (.flat v)) u):u=v:=by
 cases h with | t x v h=>cases h;rfl
theorem law_true {P:Program} {f:FuncId} {args:List V} (h:Fun P f args (fB true)) {W:World} {cargs:Array Value} (hT:Tab (fun b=>b<W.heap.size) W) (hr:VReps (Cx.none fun b=>b<W.heap.size) W args cargs):
 Calls P f cargs W fun e W'=>e=.returned (.bool true)∧Below W.heap.size W W':=
 (h.2 _ W cargs (fun b h=>h) hT hr).mono fun e w' ⟨u,h1,h2,h3⟩=>by
  obtain rfl:=vflat h3
  exact ⟨h1,h2⟩
end Lw
end Go.Proofs.YtbpihhelojjedaaDoor
namespace Go.Proofs.YtbpihhelojjedaaDoor
open Go Go.RowKit Go.Lib
open Ab Sh
namespace Lw
theorem tab1_of {W:World} (h:laidMet Tryd.prog [("math/bits.deBruijn64tab",Rows.laid_math_bits_deBruijn64tab)] W):Tab (fun b=>b<W.heap.size) W:=by
 have e1:(Rows.laid_math_bits_deBruijn64tab:DataW Unit)=Lib.tabData .u8 (Lib.deBruijn64tab.map Int.ofNat):=by kernel_rfl
 rw [e1] at h
 have r1:=br_of (laidMet.reads h (n:= "math/bits.deBruijn64tab") (by simp))
 refine And.intro (fun p hp=>?_) (And.intro (fun p hp=>nomatch (show p∈([]:List (Nat × Bool)) from hp)) (fun p hp=>nomatch (show p∈([]:List (Nat × List Value)) from hp)))
 rcases List.mem_cons.1 hp with rfl | hp
 · exact ⟨lt_of_cell (r1 0 _ rfl),r1⟩
 · cases hp
end Lw
end Go.Proofs.YtbpihhelojjedaaDoor
namespace Go.Proofs.YtbpihhelojjedaaDoor
open Go Go.RowKit Go.Sort
open Ab
namespace Sh
theorem perm_uniq {α:Type} {le:α→α→Prop} (anti:∀a b,le a b→le b a→a=b):∀(l m:List α),l.Perm m→l.Pairwise le→m.Pairwise le→l=m
 | [],m,p,_,_=>(List.Perm.eq_nil p.symm).symm
 | a::l,[],p,_,_=>absurd (List.Perm.eq_nil p) (by simp)
 | a::l,b::m,p,hl,hm=>by
   have hl':=List.pairwise_cons.1 hl
   have hm':=List.pairwise_cons.1 hm
   have hab:a=b:=by
    rcases List.mem_cons.1 (p.mem_iff.1 (List.mem_cons_self (a:=a) (l:=l))) with e | h1
    · exact e
    · rcases List.mem_cons.1 (p.mem_iff.2 (List.mem_cons_self (a:=b) (l:=m))) with e | h2
      · exact e.symm
      · exact anti _ _ (hl'.1 b h2) (hm'.1 a h1)
   subst hab
   rw [perm_uniq anti l m (List.perm_cons a |>.1 p) hl'.2 hm'.2]
end Sh
end Go.Proofs.YtbpihhelojjedaaDoor
namespace Go.Proofs.YtbpihhelojjedaaDoor
open Go Go.RowKit Go.Sort
open Ab
namespace Sh
def NoneL (P:Program) (f:FuncId) (args:List V):Prop:=
 Callable P f∧∀(G:Nat→Prop) (w:World) (p:Option Addr) (cap:Nat) (cargs:Array Value),VReps (Cx.none G) w args cargs→Calls P f (#[.slice p 0 cap]++cargs) w fun e w'=>e=.returned (.tuple #[])∧w'=w
theorem call_noneL {P:Program} {A:Run} {f:FuncId} {ty es id:Nat} {args:List V} {s:St} {K:V→St→Prop} (hM:NoneL P f args) (hrow:s.heap.getD id none=some (.list ty es [])) (hca:args.all V.closedB=true) (hK:K (.tup []) s):CallA P A f (.lst id::args) s K:=by
 refine ⟨hM.1,fun cx a w cargs R hargs=>?_⟩
 obtain ⟨u0,r0,rfl,hu,hr⟩:=hargs.uncons
 have hR:=R.hp.row id _ (getD_row hrow)
 have fin:∀p cap,Calls P f (#[.slice p 0 cap]++r0) w fun e w'=>(∃u v s' cx',e=.returned u∧K v s'∧VRep cx' w' v u∧Rel A cx' s' a w')∨∃ch,e=.panicked ch∧PanAt A a ch w':=fun p cap=>by
  refine (hM.2 cx.G w p cap r0 (closed_reps hr hca)).mono ?_
  rintro e w' ⟨rfl,rfl⟩
  exact .inl ⟨_,_,s,cx,rfl,hK,.tup _ _ rfl (fun i c u h=>by simp at h),R⟩
 cases hu with
 | lstN id a0 z0 h' hz0=>exact fin _ _
 | lst id b cap es' len h'=>
   cases hR with
   | listN _ _ z hat hz=>rw [hat] at h';cases h'
   | list _ _ _ b' cap' vs hat=>
     rw [hat] at h'
     cases h'
     exact fin _ _
theorem set_same {α:Type}:∀{l:List α} {i:Nat} {x:α},l[i]?=some x→l.set i x=l
 | [],_,_,h=>by simp at h
 | a::l,0,x,h=>by simp at h;subst h;rfl
 | a::l,i+1,x,h=>by rw [List.set_cons_succ,set_same (by simpa using h)]
def sortK_g {α:Type} (m:List α→List α) (l:List α):Option (List α):=if l.length≤1000000000 then some (m l) else none
theorem L_sortK {P:Program} {A:Run} {W:Wd} {E:Env} (hE:dom P A=mkE W E) {R:RF} (hR:R=rw) {α:Type} {c:α→List Ab.T} {k:Nat} {m:List α→List α} {f:FuncId} {args:List V} {ty id:Nat} {l:List α} {β:Type} {v:β} {X:List α→Option β} {s:St} {K:V→St→Prop} (h:(sortK_g m l).bind X=some v)
 (hM:∀(l:List α),l.length≤1000000000→∀ty,MethL P f ty k (rw _ c l) args (.tup []) (rw _ c (m l))) (hN:NoneL P f args) (hm:m []=[]) (hca:args.all V.closedB=true) (hrow:s.heap.getD id none=some (.list ty k (R _ c l))) (hK:∀x,X x=some v→K (.tup []) (s.setRow id (.list ty k (R _ c x)))):E.call f (.lst id::args) s K:=by
 unfold sortK_g at h
 split at h
 case isFalse=>cases h
 rename_i hc
 have hcall:(mkE W E).call f (.lst id::args) s K:=by
  rw [←hE]
  subst hR
  cases l with
  | nil=>
    have h0:=hK _ h
    rw [hm] at h0
    have e:s.setRow id (.list ty k (rw _ c []))=s:=by
     unfold St.setRow
     rw [set_same (getD_row hrow)]
    rw [e] at h0
    exact call_noneL hN hrow hca h0
  | cons a r=>exact call_methL (hM _ hc ty) hrow (fun e=>by cases e) hca (hK _ h)
 exact hcall
end Sh
end Go.Proofs.YtbpihhelojjedaaDoor
