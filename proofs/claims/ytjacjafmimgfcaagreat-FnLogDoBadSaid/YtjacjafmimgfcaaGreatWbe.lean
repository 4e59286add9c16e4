/- The reference: a turn of a task, on a copy. -/
import Derived.Test.YtjacjafmimgfcaaGreatWbd
set_option linter.unusedVariables false
set_option linter.unusedSimpArgs false
namespace Go.Proofs.YtjacjafmimgfcaaGreat
open Go.RowKit
attribute [local go_sem ↓] Go.wp_at_zero Go.wp_at_succ
theorem SysO.withRun {R:Nat→Role}{w:World}{base base' g:Nat}{vc vt vl:Value}{s:Sys}{ts:List TV}{es:List EV}(h:SysO R w base vc vt vl s ts es)(hg:R g=.no)(hl:g<w.heap.size)(hb:base'≤base)(hb2:base'≤g) :
  SysO (fun k=>if k=g then .run else R k) w base' vc vt vl s ts es:=by
 have hR:∀ k,R k≠.no→(if k=g then Role.run else R k)=R k:=fun k hk=>if_neg fun e=>hk (by rw [e,hg])
 have h2:=h.lower hb
 have f:∀ {k:Nat} {r:Role},R k=r→r≠.no→(if k=g then Role.run else R k)=r:=fun e hn=>(hR _ (by rw [e];exact hn)).trans e
 refine⟨h2.ets,h2.ees,h2.c,h2.t,h2.l,fun k e=>f (h2.Rc k e) Role.noConfusion,fun k e=>f (h2.Rt k e) Role.noConfusion,fun k e=>f (h2.Rl k e) Role.noConfusion,fun j x hj=>(h2.tt j x hj).turn hR,fun j x hj=>(h2.ee j x hj).turn hR,fun k hk=>?_,fun k hk=>?_⟩
 ·by_cases e:k=g
  ·rw [e];exact hl
  ·simp only [if_neg e] at hk;exact h2.lt k hk
 ·by_cases e:k=g
  ·rw [e];exact hb2
  ·simp only [if_neg e] at hk;exact h2.ge k hk
theorem MachO.belowBase {m:Mc}{R:Nat→Role}{w:World}{vc vt vl:Value}{s:Sys}{ts:List TV}{es:List EV}(h:MachO m R w vc vt vl s ts es)(h0:∀ k,m.R0 k≠.no→m.base≤k)(hb:m.base≤m.w0.heap.size):Below m.base m.w0 w :=
 h.mv.k.below (fun k hk e=>by have:=h0 k e;omega) hb
structure Few (s:Sys):Prop where
 c:s.cells.length≤1000000
 t:∀ k (hk:k<s.tasks.length),(s.tasks[k]).regs.length≤1000000∧(s.tasks[k]).old.length≤1000000∧(s.tasks[k]).reads.length≤1000000∧(s.tasks[k]).puts.length≤1000000
 l:∀ k (hk:k<s.log.length),(s.log[k]).reads.length≤1000000∧(s.log[k]).puts.length≤1000000
theorem SInv.few {p:Prog}{s:Sys}(h:SInv p s):Few s:=by
 have hc:=cells_few h
 refine⟨by omega,fun k hk=>?_,fun k hk=>?_⟩
 ·have q:=h.small hk
  have e:s.t k=s.tasks[k]:=sys_t hk
  have h1:=q.regs
  have h2:=q.old
  have h3:=q.reads
  have h4:=q.puts
  rw [e] at h1 h2 h3 h4
  omega
 ·have q:=h.log k hk
  have h1:=list_few q.reads
  have h2:=list_few q.puts
  omega
theorem heap4 (w:World)(o0 o1 o2 o3:Obj):((((w.alloc o0).alloc o1).alloc o2).alloc o3).heap[w.heap.size+1]?=some o1∧((((w.alloc o0).alloc o1).alloc o2).alloc o3).heap[w.heap.size+1+1]?=some o2∧((((w.alloc o0).alloc o1).alloc o2).alloc o3).heap[w.heap.size+1+1+1]?=some o3:=by
 have h1:=heap_alloc_new (w.alloc o0) o1
 have h2:=heap_alloc_new ((w.alloc o0).alloc o1) o2
 have h3:=heap_alloc_new (((w.alloc o0).alloc o1).alloc o2) o3
 simp only [World.size_alloc] at h1 h2 h3
 exact⟨((alB _ o3).block _ (by simp)).trans (((alB _ o2).block _ (by simp)).trans h1),((alB _ o3).block _ (by simp)).trans h2,h3⟩
theorem mach_of {T:TypeId}{p:Prog}{s:Sys}{P Q:Option Addr}{cp cq g base:Nat}{w3:World}{R:Nat→Role}{vc vt vl x2 x3 x4 x5:Value}{ts:List TV}{es:List EV}(hg:w3.heap[g]?=some (.cells #[.slice P p.cells.length cp,.slice Q p.bodies.length cq,x2,x3,x4,x5] T (0,0)))(hS:SysO R w3 base vc vt vl s ts es)(hb:g<base)(hQ:Row (Kd.slice kAct) w3 (fun k=>k<g) Q p.bodies) :
  MachO ⟨T,p,P,Q,cp,cq,g,g,(fun k=>if k=g then .run else R k),(((w3.setCell ⟨g,2,none⟩ vc).setCell ⟨g,3,none⟩ vt).setCell ⟨g,4,none⟩ (.int .i64 s.clock)).setCell ⟨g,5,none⟩ vl⟩ (fun k=>if k=g then .run else R k) ((((w3.setCell ⟨g,2,none⟩ vc).setCell ⟨g,3,none⟩ vt).setCell ⟨g,4,none⟩ (.int .i64 s.clock)).setCell ⟨g,5,none⟩ vl) vc vt vl s ts es:=by
 have hgl:g<w3.heap.size:=(Array.getElem?_eq_some_iff.1 hg).1
 have hRg:R g=.no:=Classical.byContradiction fun hn=>by have:=hS.ge g hn;omega
 have q:=heap_set_at (i:=5) (heap_set_at (i:=4) (heap_set_at (i:=3) (heap_set_at (i:=2) hg vc) vt) (.int .i64 s.clock)) vl
 simp only [List.setIfInBounds_toArray,List.set_cons_zero,List.set_cons_succ] at q
 have h2:=(((hS.far (p:=⟨g,2,none⟩) hRg vc).far (p:=⟨g,3,none⟩) hRg vt).far (p:=⟨g,4,none⟩) hRg (.int .i64 s.clock)).far (p:=⟨g,5,none⟩) hRg vl
 have hK:Keep (fun k=>k=g) w3 ((((w3.setCell ⟨g,2,none⟩ vc).setCell ⟨g,3,none⟩ vt).setCell ⟨g,4,none⟩ (.int .i64 s.clock)).setCell ⟨g,5,none⟩ vl) :=
  ((((Keep.refl (fun k=>k=g) w3).setCell (p:=⟨g,2,none⟩) (fun _=>rfl) vc).setCell (p:=⟨g,3,none⟩) (fun _=>rfl) vt).setCell (p:=⟨g,4,none⟩) (fun _=>rfl) (.int .i64 s.clock)).setCell (p:=⟨g,5,none⟩) (fun _=>rfl) vl
 exact⟨q,if_pos rfl,h2.withRun hRg (by simp;exact hgl) (by show g≤base;omega) (Nat.le_refl _),hQ.keep hK (fun k h1 _ h2=>by omega),Moved.refl _ _⟩
theorem below_two {B B':Nat}{w w1 w2:World}(h:Below B w w1)(hB:B≤B')(hw:B≤w.heap.size)(h':Below B' w1 w2):Below B w w2 :=
 ⟨h'.os.trans h.os,h'.tape.trans h.tape,h'.output.trans h.output,Nat.le_trans h.size h'.size,fun k hk=>(h'.block k (by omega)).trans (h.block k hk)⟩
def DoPost (w:World) (S:Nat→Prop) (s':Sys) (did:Bool) (e:Ending) (w':World):Prop :=
 ∃ A B C ca cb cc,e=.returned (.tuple #[.agg #[.slice A s'.cells.length ca,.slice B s'.tasks.length cb,.int .i64 s'.clock,.slice C s'.log.length cc],.bool did])∧SysR w' (fun k=>k<w'.heap.size∧(S k∨w.heap.size≤k)) s' A B C∧Below w.heap.size w w'
set_option maxHeartbeats 4000000 in
set_option maxRecDepth 100000 in
theorem l11Do_calls (p:Prog)(s:Sys)(k:Int)(P Q A B C:Option Addr)(cp cq ca cb cc:Nat)(w:World)(S SQ:Nat→Prop)(hQ:Row (Kd.slice kAct) w SQ Q p.bodies)(hR:SysR w S s A B C)(hSS:∀ k,S k→k<w.heap.size)(hSQ:∀ k,SQ k→k<w.heap.size)
  (hI:SInv p s) (hlg:s.log.length≤1000000) (hn:s.tasks.length≤1000000) (hm:mass s≤900000000) :
  Calls Tryz.prog 104 #[.agg #[.slice P p.cells.length cp,.slice Q p.bodies.length cq],.agg #[.slice A s.cells.length ca,.slice B s.tasks.length cb,.int .i64 s.clock,.slice C s.log.length cc],.int .i64 k] w (DoPost w S ((doS p s k).getD s) (doS p s k).isSome):=by
 have HR:=Lib.hid hR
 have HQ:=Lib.hid hQ
 have HI:=Lib.hid hI
 have hw1:IntKind.i64.wrap ((s.tasks.length:Int)-1)=(s.tasks.length:Int)-1:=IntWalk.i64_in _ (by omega)
 clear hR hQ hI
 obtain⟨W,HW⟩:∃ W,W=(((w.alloc (.cells #[.slice P p.cells.length cp,.slice Q p.bodies.length cq] 39)).alloc (.cells #[.slice A s.cells.length ca,.slice B s.tasks.length cb,.int .i64 s.clock,.slice C s.log.length cc] 45)).alloc (.cells #[.slice none 0 0,.slice none 0 0,.int .i64 0,.slice none 0 0] 45)).alloc (.cells #[.slice P p.cells.length cp,.slice Q p.bodies.length cq,.slice A s.cells.length ca,.slice B s.tasks.length cb,.int .i64 s.clock,.slice C s.log.length cc] 190):=⟨_,rfl⟩
 have hbW:Below w.heap.size w W:=by rw [HW];exact(by repeat' (first | exact Below.refl _ _ | apply below_drewN' | (refine Below.setCell ?_ (by simp;try omega) _) | (refine Below.alloc ?_ (by simp;try omega) _)))
 by_cases hin:inR k 0 ((s.tasks.length:Int)-1)=true
 ·obtain⟨k,rfl⟩:∃ kk:Nat,k=kk:=⟨k.toNat,by simp [inR] at hin;omega⟩
  have hkk:k<s.tasks.length:=by simp [inR] at hin;omega
  have hin':=hin
  have hz:W.heap.size=w.heap.size+1+1+1+1:=by rw [HW];simp
  have hW1:W.heap[w.heap.size+1]?=some (.cells #[.slice A s.cells.length ca,.slice B s.tasks.length cb,.int .i64 s.clock,.slice C s.log.length cc] 45 (0,0)):=by rw [HW];exact(heap4 w _ _ _ _).1
  have hW2:W.heap[w.heap.size+1+1]?=some (.cells #[.slice none 0 0,.slice none 0 0,.int .i64 0,.slice none 0 0] 45 (0,0)):=by rw [HW];exact(heap4 w _ _ _ _).2.1
  have hW3:W.heap[w.heap.size+1+1+1]?=some (.cells #[.slice P p.cells.length cp,.slice Q p.bodies.length cq,.slice A s.cells.length ca,.slice B s.tasks.length cb,.int .i64 s.clock,.slice C s.log.length cc] 190 (0,0)):=by rw [HW];exact(heap4 w _ _ _ _).2.2
  have g3:=cell_of_row _ _ 3 _ _ _ hW3
  have g4:=cell_of_row _ _ 4 _ _ _ hW3
  simp at g3 g4
  by_cases hr:readyS s k=true
  ·have hd:Hid (doS p s (k:Int)=some (stepS p s k)):=Lib.hid (by unfold doS;rw [hin',Int.toNat_natCast,hr];rfl)
   go_enter Tryz.func104,Tryz.ntmps104
   go_wp2_with (first | (go_at_call 67;go_must (refine(l6In_calls (k:Int) 0 ((s.tasks.length:Int)-1) _).mono ?_;rintro e w2 ⟨rfl,rfl⟩;rw [hin'])) | (go_at_call 143;go_must (rw [← HW];refine(ready_calls s (w.heap.size+1+1+1) B cb k _ S (HR.out.t.belowAll hbW) g3 g4 hkk hn).mono ?_;rintro e w2 ⟨rfl,hb2⟩;rw [hr];have hz2:=hb2.size;have q1:=(hb2.block (w.heap.size+1) (by omega)).trans hW1;have q2:=(hb2.block (w.heap.size+1+1) (by omega)).trans hW2;have q3:=(hb2.block (w.heap.size+1+1+1) (by omega)).trans hW3;have i0:=cell_of_row _ _ 0 _ _ _ q1;have i1:=cell_of_row _ _ 1 _ _ _ q1;have i2:=cell_of_row _ _ 2 _ _ _ q1;have i3:=cell_of_row _ _ 3 _ _ _ q1;have j0:=cell_of_row _ _ 0 _ _ _ q2;have j1:=cell_of_row _ _ 1 _ _ _ q2;have j2:=cell_of_row _ _ 2 _ _ _ q2;have j3:=cell_of_row _ _ 3 _ _ _ q2;have jf:=fun i=>frozen_of_row _ _ i _ _ q2;have k2:=cell_of_row _ _ 2 _ _ _ q3;have k3:=cell_of_row _ _ 3 _ _ _ q3;have k4:=cell_of_row _ _ 4 _ _ _ q3;have k5:=cell_of_row _ _ 5 _ _ _ q3;have kf:=fun i=>frozen_of_row _ _ i _ _ q3;simp at i0 i1 i2 i3 j0 j1 j2 j3 k2 k3 k4 k5;have hbw2:=below_then hbW hbW.size hb2;have HQ3:=Lib.hid q3)) | (go_at_call 103;go_must (refine(l11Copy_calls s A B C ca cb cc w2 S (HR.out.below hbw2) (fun k h=>Nat.lt_of_lt_of_le (hSS k h) hbw2.size) HI.out.few.c hn hlg HI.out.few.t HI.out.few.l).mono ?_;rintro e w3 ⟨R,vc,vt,vl,ts,es,rfl,hS3,hb3⟩;obtain⟨Vc,v1,rfl,_⟩:=Own.slice hS3.c;obtain⟨Vt,v2,rfl,_⟩:=Own.slice hS3.t;obtain⟨Vl,v3,rfl,_⟩:=Own.slice hS3.l;have hz3:=hb3.size;clear k2 k3 k4 k5 kf j0 j1 j2 j3 jf i0 i1 i2 i3;have r2:=(hb3.block (w.heap.size+1+1) (by omega)).trans q2;have r3:=(hb3.block (w.heap.size+1+1+1) (by omega)).trans HQ3.out;have k2:=cell_of_row _ _ 2 _ _ _ r3;have k3:=cell_of_row _ _ 3 _ _ _ r3;have k4:=cell_of_row _ _ 4 _ _ _ r3;have k5:=cell_of_row _ _ 5 _ _ _ r3;have kf:=fun i=>frozen_of_row _ _ i _ _ r3;simp at k2 k3 k4 k5;have hbw3:=below_then hbw2 hbw2.size hb3;have HM:=Lib.hid (mach_of r3 hS3 (by omega) ((HQ.out.belowAll hbw3).mono (fun k h=>by have:=hSQ k h;omega)));have HR2:=Lib.hid r2;clear q1 q2 q3 r2 r3 hS3 hb3)) | (go_at_call 144;go_must (refine(step_calls _ s _ _ k HM.out.mach hkk HI.out (by omega) hn hm).mono ?_;rintro e w4 ⟨rfl,vt',H4⟩;obtain⟨R4,vc4,vl4,ts4,es4,H4⟩:=H4;obtain⟨A4,B4,C4,ca4,cb4,cc4,e1,e2,e3,_,_,_,hSR⟩:=H4.sys.read;subst e1;subst e2;subst e3;have hb4:=H4.belowBase (fun q hq=>HM.out.sys.ge q hq) (by simp;omega);dsimp only at H4 hb4;obtain⟨_,_,y2,y3,y4,y5⟩:=H4.cells;dsimp only at y2 y3 y4 y5;have s2:=(hb4.block (w.heap.size+1+1) (by omega)).trans ((Below.heap_setCell _ _ _ _ (by simp)).trans ((Below.heap_setCell _ _ _ _ (by simp)).trans ((Below.heap_setCell _ _ _ _ (by simp)).trans ((Below.heap_setCell _ _ _ _ (by simp)).trans HR2.out))));have j0:=cell_of_row _ _ 0 _ _ _ s2;have j1:=cell_of_row _ _ 1 _ _ _ s2;have j2:=cell_of_row _ _ 2 _ _ _ s2;have j3:=cell_of_row _ _ 3 _ _ _ s2;have jf:=fun i=>frozen_of_row _ _ i _ _ s2;simp at j0 j1 j2 j3;have hbw4:=below_two ((((hbw3.setCell (p:=⟨w.heap.size+1+1+1,2,none⟩) (by simp;try omega) _).setCell (p:=⟨w.heap.size+1+1+1,3,none⟩) (by simp;try omega) _).setCell (p:=⟨w.heap.size+1+1+1,4,none⟩) (by simp;try omega) _).setCell (p:=⟨w.heap.size+1+1+1,5,none⟩) (by simp;try omega) _) (by omega) (Nat.le_refl _) hb4;have HF:=Lib.hid (And.intro H4 hSR);clear H4 hSR s2 hb4 HM)))
   rw [hd.out]
   obtain⟨HF1,HF2⟩:=HF.out
   refine bodyPost_ret (v:=.tuple #[.agg #[.slice A4 (stepS p s k).cells.length ca4,.slice B4 (stepS p s k).tasks.length cb4,.int .i64 (stepS p s k).clock,.slice C4 (stepS p s k).log.length cc4],.bool true]) (by simp [results,Tryz.results104,go_sem, *]) rfl ⟨A4,B4,C4,ca4,cb4,cc4,rfl,?_,?_⟩
   ·have hF2:=(SysR.mono HF2 (S':=fun q=>q<w4.heap.size∧w.heap.size+1+1+1≤q) (fun q hq=>⟨HF1.sys.lt q hq,HF1.sys.ge q hq⟩))
    refine(hF2.step (fun q h1 h2=>?_)).mono (fun q h=>⟨by simp;exact h.1,.inr (by have:=h.2;omega)⟩)
    iterate 4 (refine(Below.heap_setCell _ _ _ _ (fun e=>by have h3:=h1.2;simp at e;omega)).trans ?_)
    rfl
   ·exact(((hbw4.setCell (p:=⟨w.heap.size+1+1,0,none⟩) (by simp;try omega) _).setCell (p:=⟨w.heap.size+1+1,1,none⟩) (by simp;try omega) _).setCell (p:=⟨w.heap.size+1+1,2,none⟩) (by simp;try omega) _).setCell (p:=⟨w.heap.size+1+1,3,none⟩) (by simp;try omega) _
  ·have hr:readyS s k=false:=by simpa using hr
   have hd:Hid (doS p s (k:Int)=none):=Lib.hid (by unfold doS;rw [hin',Int.toNat_natCast,hr];rfl)
   go_enter Tryz.func104,Tryz.ntmps104
   go_wp2_with (first | (go_at_call 67;go_must (refine(l6In_calls (k:Int) 0 ((s.tasks.length:Int)-1) _).mono ?_;rintro e w2 ⟨rfl,rfl⟩;rw [hin'])) | (go_at_call 143;go_must (rw [← HW];refine(ready_calls s (w.heap.size+1+1+1) B cb k _ S (HR.out.t.belowAll hbW) g3 g4 hkk hn).mono ?_;rintro e w2 ⟨rfl,hb2⟩;rw [hr];have hz2:=hb2.size;have q1:=(hb2.block (w.heap.size+1) (by omega)).trans hW1;have q2:=(hb2.block (w.heap.size+1+1) (by omega)).trans hW2;have q3:=(hb2.block (w.heap.size+1+1+1) (by omega)).trans hW3;have i0:=cell_of_row _ _ 0 _ _ _ q1;have i1:=cell_of_row _ _ 1 _ _ _ q1;have i2:=cell_of_row _ _ 2 _ _ _ q1;have i3:=cell_of_row _ _ 3 _ _ _ q1;have j0:=cell_of_row _ _ 0 _ _ _ q2;have j1:=cell_of_row _ _ 1 _ _ _ q2;have j2:=cell_of_row _ _ 2 _ _ _ q2;have j3:=cell_of_row _ _ 3 _ _ _ q2;have jf:=fun i=>frozen_of_row _ _ i _ _ q2;have k2:=cell_of_row _ _ 2 _ _ _ q3;have k3:=cell_of_row _ _ 3 _ _ _ q3;have k4:=cell_of_row _ _ 4 _ _ _ q3;have k5:=cell_of_row _ _ 5 _ _ _ q3;have kf:=fun i=>frozen_of_row _ _ i _ _ q3;simp at i0 i1 i2 i3 j0 j1 j2 j3 k2 k3 k4 k5;have hbw2:=below_then hbW hbW.size hb2;have HQ3:=Lib.hid q3)))
   rw [hd.out]
   refine bodyPost_ret (v:=.tuple #[.agg #[.slice A s.cells.length ca,.slice B s.tasks.length cb,.int .i64 s.clock,.slice C s.log.length cc],.bool false]) (by simp [results,Tryz.results104,go_sem, *]) rfl ⟨A,B,C,ca,cb,cc,rfl,?_,?_⟩
   ·exact(HR.out.below (w':=_) (by repeat' (first | exact hbw2 | (refine Below.setCell ?_ (by simp;try omega) _)))).mono (fun k h=>⟨Nat.lt_of_lt_of_le (hSS k h) (by simp;have:=hbw2.size;try omega),.inl h⟩)
   ·exact(by repeat' (first | exact hbw2 | (refine Below.setCell ?_ (by simp;try omega) _)))
 ·have hin':inR k 0 ((s.tasks.length:Int)-1)=false:=by simpa using hin
  have hd:Hid (doS p s k=none):=Lib.hid (by unfold doS;rw [hin'];rfl)
  go_enter Tryz.func104,Tryz.ntmps104
  go_wp2_with (go_at_call 67;go_must (refine(l6In_calls k 0 ((s.tasks.length:Int)-1) _).mono ?_;rintro e w2 ⟨rfl,rfl⟩;rw [hin']))
  rw [hd.out]
  refine bodyPost_ret (v:=.tuple #[.agg #[.slice A s.cells.length ca,.slice B s.tasks.length cb,.int .i64 s.clock,.slice C s.log.length cc],.bool false]) (by simp [results,Tryz.results104,go_sem, *]) rfl ⟨A,B,C,ca,cb,cc,rfl,?_,?_⟩
  ·refine(HR.out.below (w':=_) (by repeat' (first | exact Below.refl _ _ | apply below_drewN' | (refine Below.setCell ?_ (by simp;try omega) _) | (refine Below.alloc ?_ (by simp;try omega) _)))).mono (fun k h=>⟨Nat.lt_of_lt_of_le (hSS k h) (by simp;try omega),.inl h⟩)
  ·exact(by repeat' (first | exact Below.refl _ _ | apply below_drewN' | (refine Below.setCell ?_ (by simp;try omega) _) | (refine Below.alloc ?_ (by simp;try omega) _)))
end Go.Proofs.YtjacjafmimgfcaaGreat
