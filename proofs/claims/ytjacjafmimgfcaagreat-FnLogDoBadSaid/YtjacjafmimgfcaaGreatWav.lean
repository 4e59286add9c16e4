/- The reference's look at a system: a task. -/
import Derived.Test.YtjacjafmimgfcaaGreatWaj
import Derived.Test.YtjacjafmimgfcaaGreatWau
set_option linter.unusedVariables false
set_option linter.unusedSimpArgs false
namespace Go.Proofs.YtjacjafmimgfcaaGreat
open Go.RowKit
theorem putsOk_few {l:List Put}{n:Int}(h:putsOk l n=true)(hn:0≤n):(l.length:Int)≤n:=by
 have:=asc_len l 0 n (putsOk_sorted h) (fun x hx=>by have:=putsOk_mem h hx;omega) hn
 omega
theorem taskOk_parts (p:Prog)(s:Sys)(i:Nat)(t:Task)(ht:t=s.t i):taskOk p s i =
  (inR t.body 0 ((p.bodies.length:Int)-1) && (inR t.pc 0 (p.acts t.body).length && (inR t.way 0 4 && (inR t.stage 0 5 && ((decide (t.way=0) || decide (t.stage=0)) && (regsOk t.regs && (regsOk t.old && (putsOk t.reads s.cells.length && (putsOk t.puts s.cells.length &&
   ((decide (t.stage≠0) || (decide (t.pos=0) && decide ((t.reads.length:Int)+t.puts.length=0))) && (timesOk t s.clock s.log.length && (upOk s i && actStand p s i)))))))))))):=by
 subst ht
 unfold taskOk
 simp only [Bool.and_assoc]
set_option maxHeartbeats 4000000 in
set_option maxRecDepth 100000 in
theorem l12Task_calls (p:Prog)(s:Sys)(i:Nat)(P Q A B C:Option Addr)(cp cq ca cb cc:Nat)(w:World)(S:Nat→Prop)(hQ:Row (Kd.slice kAct) w S Q p.bodies)(hT:Row kTask w S B s.tasks)(hi:i<s.tasks.length)(hn:s.tasks.length≤1000)(hnc:s.cells.length≤1000)(hc0:0≤s.clock)(hc1:s.clock≤200)(hlg:s.log.length≤9223372036854775807) :
  Calls Tryz.prog 68 #[.agg #[.slice P p.cells.length cp,.slice Q p.bodies.length cq],.agg #[.slice A s.cells.length ca,.slice B s.tasks.length cb,.int .i64 s.clock,.slice C s.log.length cc],.int .i64 (i:Nat)] w fun e w'=>e=.returned (.bool (taskOk p s i))∧Below w.heap.size w w':=by
 have hm:=hT.1
 have hmq:=hQ.1
 have hb:=fun o1 o2 o3=>alB3 w o1 o2 o3
 obtain⟨t,ht⟩:∃ t,t=s.t i:=⟨_,rfl⟩
 have HTO:=Lib.hid (taskOk_parts p s i t ht)
 obtain⟨ad,R,O,D,U,cr,co,cd,cu,rfl,hl,hrows,hat⟩:=at_task hT hi
 rw [← sys_t hi,← ht] at hat hrows
 obtain⟨hlr,hlo,hld,hlu,hrr,hro,hrd,hru⟩:=hrows
 have hl2:(ad.add (i*13)).block<w.heap.size:=by rw [block_add];exact hl
 have q:=fun o o'=>hat.below (alB2 w o o') hl2
 have k0:=fun o o'=>(q o o').c0
 have k1:=fun o o'=>(q o o').c1
 have k2:=fun o o'=>(q o o').c2
 have k3:=fun o o'=>(q o o').c3
 have k4:=fun o o'=>(q o o').c4
 have k5:=fun o o'=>(q o o').c5
 have k6:=fun o o'=>(q o o').c6
 have k7:=fun o o'=>(q o o').c7
 have k8:=fun o o'=>(q o o').c8
 have k9:=fun o o'=>(q o o').c9
 have k10:=fun o o'=>(q o o').c10
 have k11:=fun o o'=>(q o o').c11
 have k12:=fun o o'=>(q o o').c12
 have x1:(i:Int)<s.tasks.length:=by omega
 have x3:(0:Int)≤i:=by omega
 have hwr:IntKind.i64.wrap ((p.bodies.length:Int)-1)=(p.bodies.length:Int)-1:=IntWalk.i64_in _ (by omega)
 have HTT:=Lib.hid ht
 clear q hat ht hlr hlo hld hlu
 cases e1:inR t.body 0 ((p.bodies.length:Int)-1) with
 | false =>
  have hc1:=l6In_drew _ _ _ _ e1 (((w.alloc (Obj.cells #[.slice P p.cells.length cp,.slice Q p.bodies.length cq] 39)).alloc (Obj.cells #[.slice A s.cells.length ca,.slice (some ad) s.tasks.length cb,.int .i64 s.clock,.slice C s.log.length cc] 45)).alloc (Obj.cells #[.int .i64 t.body,.int .i64 t.pc,.int .i64 t.up,.slice R t.regs.length cr,.int .i64 t.way,.int .i64 t.stage,.int .i64 t.pos,.int .i64 t.since,.slice O t.old.length co,.slice D t.reads.length cd,.slice U t.puts.length cu,.int .i64 t.whn,.int .i64 t.frm] 118))
  have E1:=Lib.hid e1
  clear e1
  go_enter Tryz.func68,Tryz.ntmps68
  go_wp2
  go_quiet (first | (go_at_call 67;with_reducible refine Calls.quiet_of_same (hc1 _)))
  go_wp2
  go_ret
  refine⟨ret_bool ?_,by repeat' (first | exact hb _ _ _ | apply below_drewN1)⟩
  rw [HTO.out,E1.out]
  simp only [Bool.false_and,Bool.true_and,Bool.and_false]
 | true =>
  have hb1:0≤t.body∧t.body≤(p.bodies.length:Int)-1:=by simpa [inR] using e1
  obtain⟨b,hbn⟩:∃ b:Nat,t.body=(b:Int):=⟨t.body.toNat,by omega⟩
  have hbl:b<p.bodies.length:=by omega
  have hacts:p.acts t.body=p.bodies[b]:=by unfold Prog.acts;rw [hbn,Int.toNat_natCast];exact getD_at _ _ _ hbl
  obtain⟨ae,E,ce,rfl,hle,hce,hcel,hE⟩:=at_slice hQ hbl
  have hce2:w.cell? (ae.add t.body.toNat)=some (.slice E p.bodies[b].length ce):=by rw [hbn,Int.toNat_natCast];exact hce
  have e0:=fun o1 o2 o3=>((alB3 w o1 o2 o3).cell (p:=ae.add t.body.toNat) (by rw [block_add];exact hle)).trans hce2
  have y1:t.body<p.bodies.length:=by omega
  have y3:(0:Int)≤t.body:=by omega
  have E1:=Lib.hid e1
  have HAC:=Lib.hid hacts
  have HBB:=Lib.hid (And.intro hb1 hbn)
  have hc1:=l6In_drew _ _ _ _ e1 (((w.alloc (Obj.cells #[.slice P p.cells.length cp,.slice (some ae) p.bodies.length cq] 39)).alloc (Obj.cells #[.slice A s.cells.length ca,.slice (some ad) s.tasks.length cb,.int .i64 s.clock,.slice C s.log.length cc] 45)).alloc (Obj.cells #[.int .i64 t.body,.int .i64 t.pc,.int .i64 t.up,.slice R t.regs.length cr,.int .i64 t.way,.int .i64 t.stage,.int .i64 t.pos,.int .i64 t.since,.slice O t.old.length co,.slice D t.reads.length cd,.slice U t.puts.length cu,.int .i64 t.whn,.int .i64 t.frm] 118))
  clear e1 hb1 hbn hacts hce hce2
  cases e2:inR t.pc 0 (p.bodies[b].length) with
  | false =>
   have hc2:=l6In_drew _ _ _ _ e2 (((w.alloc (Obj.cells #[.slice P p.cells.length cp,.slice (some ae) p.bodies.length cq] 39)).alloc (Obj.cells #[.slice A s.cells.length ca,.slice (some ad) s.tasks.length cb,.int .i64 s.clock,.slice C s.log.length cc] 45)).alloc (Obj.cells #[.int .i64 t.body,.int .i64 t.pc,.int .i64 t.up,.slice R t.regs.length cr,.int .i64 t.way,.int .i64 t.stage,.int .i64 t.pos,.int .i64 t.since,.slice O t.old.length co,.slice D t.reads.length cd,.slice U t.puts.length cu,.int .i64 t.whn,.int .i64 t.frm] 118))
   have E2:=Lib.hid e2
   clear e2
   go_enter Tryz.func68,Tryz.ntmps68
   go_wp2
   go_quiet (first | (go_at_call 67;with_reducible refine Calls.quiet_of_same (hc1 _)) | (go_at_call 67;with_reducible refine Calls.quiet_of_same (hc2 _)))
   go_wp2
   go_ret
   refine⟨ret_bool ?_,by repeat' (first | exact hb _ _ _ | apply below_drewN1)⟩
   rw [HTO.out,E1.out,HAC.out,E2.out]
   simp only [Bool.false_and,Bool.true_and,Bool.and_false]
  | true =>
   have hc2:=l6In_drew _ _ _ _ e2 (((w.alloc (Obj.cells #[.slice P p.cells.length cp,.slice (some ae) p.bodies.length cq] 39)).alloc (Obj.cells #[.slice A s.cells.length ca,.slice (some ad) s.tasks.length cb,.int .i64 s.clock,.slice C s.log.length cc] 45)).alloc (Obj.cells #[.int .i64 t.body,.int .i64 t.pc,.int .i64 t.up,.slice R t.regs.length cr,.int .i64 t.way,.int .i64 t.stage,.int .i64 t.pos,.int .i64 t.since,.slice O t.old.length co,.slice D t.reads.length cd,.slice U t.puts.length cu,.int .i64 t.whn,.int .i64 t.frm] 118))
   have E2:=Lib.hid e2
   clear e2
   cases e3:inR t.way 0 4 with
   | false =>
    have hc3:=l6In_drew _ _ _ _ e3 (((w.alloc (Obj.cells #[.slice P p.cells.length cp,.slice (some ae) p.bodies.length cq] 39)).alloc (Obj.cells #[.slice A s.cells.length ca,.slice (some ad) s.tasks.length cb,.int .i64 s.clock,.slice C s.log.length cc] 45)).alloc (Obj.cells #[.int .i64 t.body,.int .i64 t.pc,.int .i64 t.up,.slice R t.regs.length cr,.int .i64 t.way,.int .i64 t.stage,.int .i64 t.pos,.int .i64 t.since,.slice O t.old.length co,.slice D t.reads.length cd,.slice U t.puts.length cu,.int .i64 t.whn,.int .i64 t.frm] 118))
    have E3:=Lib.hid e3
    clear e3
    go_enter Tryz.func68,Tryz.ntmps68
    go_wp2
    go_quiet (first | (go_at_call 67;with_reducible refine Calls.quiet_of_same (hc1 _)) | (go_at_call 67;with_reducible refine Calls.quiet_of_same (hc2 _)) | (go_at_call 67;with_reducible refine Calls.quiet_of_same (hc3 _)))
    go_wp2
    go_ret
    refine⟨ret_bool ?_,by repeat' (first | exact hb _ _ _ | apply below_drewN1)⟩
    rw [HTO.out,E1.out,HAC.out,E2.out,E3.out]
    simp only [Bool.false_and,Bool.true_and,Bool.and_false]
   | true =>
    have hc3:=l6In_drew _ _ _ _ e3 (((w.alloc (Obj.cells #[.slice P p.cells.length cp,.slice (some ae) p.bodies.length cq] 39)).alloc (Obj.cells #[.slice A s.cells.length ca,.slice (some ad) s.tasks.length cb,.int .i64 s.clock,.slice C s.log.length cc] 45)).alloc (Obj.cells #[.int .i64 t.body,.int .i64 t.pc,.int .i64 t.up,.slice R t.regs.length cr,.int .i64 t.way,.int .i64 t.stage,.int .i64 t.pos,.int .i64 t.since,.slice O t.old.length co,.slice D t.reads.length cd,.slice U t.puts.length cu,.int .i64 t.whn,.int .i64 t.frm] 118))
    have E3:=Lib.hid e3
    clear e3
    cases e4:inR t.stage 0 5 with
    | false =>
     have hc4:=l6In_drew _ _ _ _ e4 (((w.alloc (Obj.cells #[.slice P p.cells.length cp,.slice (some ae) p.bodies.length cq] 39)).alloc (Obj.cells #[.slice A s.cells.length ca,.slice (some ad) s.tasks.length cb,.int .i64 s.clock,.slice C s.log.length cc] 45)).alloc (Obj.cells #[.int .i64 t.body,.int .i64 t.pc,.int .i64 t.up,.slice R t.regs.length cr,.int .i64 t.way,.int .i64 t.stage,.int .i64 t.pos,.int .i64 t.since,.slice O t.old.length co,.slice D t.reads.length cd,.slice U t.puts.length cu,.int .i64 t.whn,.int .i64 t.frm] 118))
     have E4:=Lib.hid e4
     clear e4
     go_enter Tryz.func68,Tryz.ntmps68
     go_wp2
     go_quiet (first | (go_at_call 67;with_reducible refine Calls.quiet_of_same (hc1 _)) | (go_at_call 67;with_reducible refine Calls.quiet_of_same (hc2 _)) | (go_at_call 67;with_reducible refine Calls.quiet_of_same (hc3 _)) | (go_at_call 67;with_reducible refine Calls.quiet_of_same (hc4 _)))
     go_wp2
     go_ret
     refine⟨ret_bool ?_,by repeat' (first | exact hb _ _ _ | apply below_drewN1)⟩
     rw [HTO.out,E1.out,HAC.out,E2.out,E3.out,E4.out]
     simp only [Bool.false_and,Bool.true_and,Bool.and_false]
    | true =>
     have hc4:=l6In_drew _ _ _ _ e4 (((w.alloc (Obj.cells #[.slice P p.cells.length cp,.slice (some ae) p.bodies.length cq] 39)).alloc (Obj.cells #[.slice A s.cells.length ca,.slice (some ad) s.tasks.length cb,.int .i64 s.clock,.slice C s.log.length cc] 45)).alloc (Obj.cells #[.int .i64 t.body,.int .i64 t.pc,.int .i64 t.up,.slice R t.regs.length cr,.int .i64 t.way,.int .i64 t.stage,.int .i64 t.pos,.int .i64 t.since,.slice O t.old.length co,.slice D t.reads.length cd,.slice U t.puts.length cu,.int .i64 t.whn,.int .i64 t.frm] 118))
     have E4:=Lib.hid e4
     clear e4
     have hE1:taskOk p s i=((decide (t.way=0) || decide (t.stage=0)) && (regsOk t.regs && (regsOk t.old && (putsOk t.reads s.cells.length && (putsOk t.puts s.cells.length && ((decide (t.stage≠0) || (decide (t.pos=0) && decide ((t.reads.length:Int)+t.puts.length=0))) && (timesOk t s.clock s.log.length && (upOk s i && actStand p s i)))))))):=by rw [HTO.out,E1.out,HAC.out,E2.out,E3.out,E4.out];simp only [Bool.true_and]
     have HTO2:=Lib.hid hE1
     clear hE1
     go_enter Tryz.func68,Tryz.ntmps68
     go_wp2
     go_quiet (first | (go_at_call 67;with_reducible refine Calls.quiet_of_same (hc1 _)) | (go_at_call 67;with_reducible refine Calls.quiet_of_same (hc2 _)) | (go_at_call 67;with_reducible refine Calls.quiet_of_same (hc3 _)) | (go_at_call 67;with_reducible refine Calls.quiet_of_same (hc4 _)))
     obtain⟨W,HW⟩:∃ W,W=(((w.alloc (Obj.cells #[.slice P p.cells.length cp,.slice (some ae) p.bodies.length cq] 39)).alloc (Obj.cells #[.slice A s.cells.length ca,.slice (some ad) s.tasks.length cb,.int .i64 s.clock,.slice C s.log.length cc] 45)).alloc (Obj.cells #[.int .i64 t.body,.int .i64 t.pc,.int .i64 t.up,.slice R t.regs.length cr,.int .i64 t.way,.int .i64 t.stage,.int .i64 t.pos,.int .i64 t.since,.slice O t.old.length co,.slice D t.reads.length cd,.slice U t.puts.length cu,.int .i64 t.whn,.int .i64 t.frm] 118)):=⟨_,rfl⟩
     have hbW:Below w.heap.size w W:=by rw [HW];exact hb _ _ _
     have hzW:W.heap.size=w.heap.size+3:=by rw [HW];simp
     have bt0:W.cell? ⟨w.heap.size+1+1,0,none⟩=some (.int .i64 t.body):=by rw [HW];simp [go_sem]
     have bt1:W.cell? ⟨w.heap.size+1+1,1,none⟩=some (.int .i64 t.pc):=by rw [HW];simp [go_sem]
     have bt2:W.cell? ⟨w.heap.size+1+1,2,none⟩=some (.int .i64 t.up):=by rw [HW];simp [go_sem]
     have bt3:W.cell? ⟨w.heap.size+1+1,3,none⟩=some (.slice R t.regs.length cr):=by rw [HW];simp [go_sem]
     have bt4:W.cell? ⟨w.heap.size+1+1,4,none⟩=some (.int .i64 t.way):=by rw [HW];simp [go_sem]
     have bt5:W.cell? ⟨w.heap.size+1+1,5,none⟩=some (.int .i64 t.stage):=by rw [HW];simp [go_sem]
     have bt6:W.cell? ⟨w.heap.size+1+1,6,none⟩=some (.int .i64 t.pos):=by rw [HW];simp [go_sem]
     have bt7:W.cell? ⟨w.heap.size+1+1,7,none⟩=some (.int .i64 t.since):=by rw [HW];simp [go_sem]
     have bt8:W.cell? ⟨w.heap.size+1+1,8,none⟩=some (.slice O t.old.length co):=by rw [HW];simp [go_sem]
     have bt9:W.cell? ⟨w.heap.size+1+1,9,none⟩=some (.slice D t.reads.length cd):=by rw [HW];simp [go_sem]
     have bt10:W.cell? ⟨w.heap.size+1+1,10,none⟩=some (.slice U t.puts.length cu):=by rw [HW];simp [go_sem]
     have bt11:W.cell? ⟨w.heap.size+1+1,11,none⟩=some (.int .i64 t.whn):=by rw [HW];simp [go_sem]
     have bt12:W.cell? ⟨w.heap.size+1+1,12,none⟩=some (.int .i64 t.frm):=by rw [HW];simp [go_sem]
     have bs0:W.cell? ⟨w.heap.size+1,0,none⟩=some (.slice A s.cells.length ca):=by rw [HW];simp [go_sem]
     have bs1:W.cell? ⟨w.heap.size+1,1,none⟩=some (.slice (some ad) s.tasks.length cb):=by rw [HW];simp [go_sem]
     have bs2:W.cell? ⟨w.heap.size+1,2,none⟩=some (.int .i64 s.clock):=by rw [HW];simp [go_sem]
     have bs3:W.cell? ⟨w.heap.size+1,3,none⟩=some (.slice C s.log.length cc):=by rw [HW];simp [go_sem]
     have bp0:W.cell? ⟨w.heap.size,0,none⟩=some (.slice P p.cells.length cp):=by rw [HW];simp [go_sem]
     have bp1:W.cell? ⟨w.heap.size,1,none⟩=some (.slice (some ae) p.bodies.length cq):=by rw [HW];simp [go_sem]
     rw [← HW]
     have HZ:=Lib.hid hzW
     have ht:w.heap.size+1+1<W.heap.size:=by omega
     have hs:w.heap.size+1<W.heap.size:=by omega
     have hp:w.heap.size<W.heap.size:=by omega
     have HZ:=Lib.hid (fun (w':World) (q:Below W.heap.size W w')=>And.intro ((q.cell (p:=⟨w.heap.size+1+1,0,none⟩) ht).trans bt0) (And.intro ((q.cell (p:=⟨w.heap.size+1+1,1,none⟩) ht).trans bt1) (And.intro ((q.cell (p:=⟨w.heap.size+1+1,2,none⟩) ht).trans bt2) (And.intro ((q.cell (p:=⟨w.heap.size+1+1,3,none⟩) ht).trans bt3) (And.intro ((q.cell (p:=⟨w.heap.size+1+1,4,none⟩) ht).trans bt4) (And.intro ((q.cell (p:=⟨w.heap.size+1+1,5,none⟩) ht).trans bt5) (And.intro ((q.cell (p:=⟨w.heap.size+1+1,6,none⟩) ht).trans bt6) (And.intro ((q.cell (p:=⟨w.heap.size+1+1,7,none⟩) ht).trans bt7) (And.intro ((q.cell (p:=⟨w.heap.size+1+1,8,none⟩) ht).trans bt8) (And.intro ((q.cell (p:=⟨w.heap.size+1+1,9,none⟩) ht).trans bt9) (And.intro ((q.cell (p:=⟨w.heap.size+1+1,10,none⟩) ht).trans bt10) (And.intro ((q.cell (p:=⟨w.heap.size+1+1,11,none⟩) ht).trans bt11) (And.intro ((q.cell (p:=⟨w.heap.size+1+1,12,none⟩) ht).trans bt12) (And.intro ((q.cell (p:=⟨w.heap.size+1,0,none⟩) hs).trans bs0) (And.intro ((q.cell (p:=⟨w.heap.size+1,1,none⟩) hs).trans bs1) (And.intro ((q.cell (p:=⟨w.heap.size+1,2,none⟩) hs).trans bs2) (And.intro ((q.cell (p:=⟨w.heap.size+1,3,none⟩) hs).trans bs3) (And.intro ((q.cell (p:=⟨w.heap.size,0,none⟩) hp).trans bp0) ((q.cell (p:=⟨w.heap.size,1,none⟩) hp).trans bp1)))))))))))))))))))
     clear HW hzW hc1 hc2 hc3 hc4 e0 k0 k1 k2 k3 k4 k5 k6 k7 k8 k9 k10 k11 k12
     by_cases f1:t.way=0
     ·by_cases f2:t.stage=0
      ·have g1:(t.way != 0)=false:=by simp [f1]
       have g2:(t.stage != 0)=false:=by simp [f2]
       have E5:=Lib.hid (show (decide (t.way=0) || decide (t.stage=0))=true by simp [f1,f2])
       have F2:=Lib.hid f2
       clear f1 f2
       cases e6:regsOk t.regs with
       | false =>
        have E6:=Lib.hid e6
        clear e6
        go_wp2_with (first | (go_at_call 75;with_reducible refine(l2Nums_calls t.regs 3 R cr _ S (Row.drewN (hrr.belowAll hbW) _)).mono ?_;rintro e w' ⟨rfl,rfl⟩;rw [show (numsOk t.regs && ((t.regs.length:Int) == 3))=regsOk t.regs from rfl,E6.out]))
        go_ret
        refine⟨ret_bool ?_,(below_drewN' hbW _)⟩
        rw [HTO2.out,E5.out,E6.out]
        simp only [Bool.false_and,Bool.true_and,Bool.and_false]
       | true =>
        have E6:=Lib.hid e6
        clear e6
        cases e7:regsOk t.old with
        | false =>
         have E7:=Lib.hid e7
         clear e7
         go_wp2_with (first | (go_at_call 75;with_reducible refine(l2Nums_calls t.regs 3 R cr _ S (Row.drewN (hrr.belowAll hbW) _)).mono ?_;rintro e w' ⟨rfl,rfl⟩;rw [show (numsOk t.regs && ((t.regs.length:Int) == 3))=regsOk t.regs from rfl,E6.out]) | (go_at_call 75;with_reducible refine(l2Nums_calls t.old 3 O co _ S (Row.drewN (hro.belowAll hbW) _)).mono ?_;rintro e w' ⟨rfl,rfl⟩;rw [show (numsOk t.old && ((t.old.length:Int) == 3))=regsOk t.old from rfl,E7.out]))
         go_ret
         refine⟨ret_bool ?_,(below_drewN' hbW _)⟩
         rw [HTO2.out,E5.out,E6.out,E7.out]
         simp only [Bool.false_and,Bool.true_and,Bool.and_false]
        | true =>
         have E7:=Lib.hid e7
         clear e7
         cases e8:putsOk t.reads s.cells.length with
         | false =>
          have E8:=Lib.hid e8
          clear e8
          go_wp2_with (first | (go_at_call 75;with_reducible refine(l2Nums_calls t.regs 3 R cr _ S (Row.drewN (hrr.belowAll hbW) _)).mono ?_;rintro e w' ⟨rfl,rfl⟩;rw [show (numsOk t.regs && ((t.regs.length:Int) == 3))=regsOk t.regs from rfl,E6.out]) | (go_at_call 75;with_reducible refine(l2Nums_calls t.old 3 O co _ S (Row.drewN (hro.belowAll hbW) _)).mono ?_;rintro e w' ⟨rfl,rfl⟩;rw [show (numsOk t.old && ((t.old.length:Int) == 3))=regsOk t.old from rfl,E7.out]) | (go_at_call 109;with_reducible refine(l12List_calls t.reads D cd _ _ S (Row.drewN (hrd.belowAll hbW) _) (by omega) (by omega)).mono ?_;rintro e w5 ⟨rfl,hb5⟩;rw [E8.out];have q5:Below W.heap.size W w5:=below_then (below_drewN' (Below.refl _ W) _) (Nat.le_refl _) hb5;obtain⟨zt0,zt1,zt2,zt3,zt4,zt5,zt6,zt7,zt8,zt9,zt10,zt11,zt12,zs0,zs1,zs2,zs3,zp0,zp1⟩:=HZ.out _ q5))
          go_ret
          refine⟨ret_bool ?_,(below_then hbW hbW.size q5)⟩
          rw [HTO2.out,E5.out,E6.out,E7.out,E8.out]
          simp only [Bool.false_and,Bool.true_and,Bool.and_false]
         | true =>
          have E8:=Lib.hid e8
          have hd:=putsOk_few e8 (by omega)
          clear e8
          cases e9:putsOk t.puts s.cells.length with
          | false =>
           have E9:=Lib.hid e9
           clear e9
           go_wp2_with (first | (go_at_call 75;with_reducible refine(l2Nums_calls t.regs 3 R cr _ S (Row.drewN (hrr.belowAll hbW) _)).mono ?_;rintro e w' ⟨rfl,rfl⟩;rw [show (numsOk t.regs && ((t.regs.length:Int) == 3))=regsOk t.regs from rfl,E6.out]) | (go_at_call 75;with_reducible refine(l2Nums_calls t.old 3 O co _ S (Row.drewN (hro.belowAll hbW) _)).mono ?_;rintro e w' ⟨rfl,rfl⟩;rw [show (numsOk t.old && ((t.old.length:Int) == 3))=regsOk t.old from rfl,E7.out]) | (go_at_call 109;with_reducible refine(l12List_calls t.reads D cd _ _ S (Row.drewN (hrd.belowAll hbW) _) (by omega) (by omega)).mono ?_;rintro e w5 ⟨rfl,hb5⟩;rw [E8.out];have q5:Below W.heap.size W w5:=below_then (below_drewN' (Below.refl _ W) _) (Nat.le_refl _) hb5;obtain⟨zt0,zt1,zt2,zt3,zt4,zt5,zt6,zt7,zt8,zt9,zt10,zt11,zt12,zs0,zs1,zs2,zs3,zp0,zp1⟩:=HZ.out _ q5) | (go_at_call 109;with_reducible refine(l12List_calls t.puts U cu _ _ S (hru.belowAll (below_then hbW hbW.size q5)) (by omega) (by omega)).mono ?_;rintro e w6 ⟨rfl,hb6⟩;rw [E9.out];have q6:Below W.heap.size W w6:=below_then q5 q5.size hb6;obtain⟨zt0,zt1,zt2,zt3,zt4,zt5,zt6,zt7,zt8,zt9,zt10,zt11,zt12,zs0,zs1,zs2,zs3,zp0,zp1⟩:=HZ.out _ q6))
           go_ret
           refine⟨ret_bool ?_,(below_then hbW hbW.size q6)⟩
           rw [HTO2.out,E5.out,E6.out,E7.out,E8.out,E9.out]
           simp only [Bool.false_and,Bool.true_and,Bool.and_false]
          | true =>
           have E9:=Lib.hid e9
           have hu:=putsOk_few e9 (by omega)
           clear e9
           have hsum:IntKind.i64.wrap ((t.reads.length:Int)+t.puts.length)=(t.reads.length:Int)+t.puts.length:=IntWalk.i64_in _ (by omega)
           have HFEW:=Lib.hid (show (s.t i).reads.length≤1000∧(s.t i).puts.length≤1000 by rw [← HTT.out];omega)
           have HBD:=Lib.hid (show (0≤(s.t i).body∧(s.t i).body<p.bodies.length)∧(0≤(s.t i).pc∧(s.t i).pc≤(p.acts (s.t i).body).length) by rw [← HTT.out,HAC.out];have h1:=HBB.out.1;have h2:=E2.out;simp [inR] at h2;omega)
           by_cases hp0:t.pos=0
           ·have gp:(t.pos == 0)=true:=by simp [hp0]
            have HP:=Lib.hid hp0
            clear hp0
            by_cases hsm:(t.reads.length:Int)+t.puts.length=0
            ·have gs:((t.reads.length:Int)+t.puts.length == 0)=true:=by simp only [hsm];rfl
             have HSM:=Lib.hid hsm
             clear hsm
             have E10:=Lib.hid (show (decide (t.stage≠0) || (decide (t.pos=0) && decide ((t.reads.length:Int)+t.puts.length=0)))=true by rw [decide_eq_true HP.out,decide_eq_true HSM.out];simp)
             cases e11:timesOk t s.clock s.log.length with
             | false =>
              have E11:=Lib.hid e11
              clear e11
              go_wp2_with (first | (go_at_call 75;with_reducible refine(l2Nums_calls t.regs 3 R cr _ S (Row.drewN (hrr.belowAll hbW) _)).mono ?_;rintro e w' ⟨rfl,rfl⟩;rw [show (numsOk t.regs && ((t.regs.length:Int) == 3))=regsOk t.regs from rfl,E6.out]) | (go_at_call 75;with_reducible refine(l2Nums_calls t.old 3 O co _ S (Row.drewN (hro.belowAll hbW) _)).mono ?_;rintro e w' ⟨rfl,rfl⟩;rw [show (numsOk t.old && ((t.old.length:Int) == 3))=regsOk t.old from rfl,E7.out]) | (go_at_call 109;with_reducible refine(l12List_calls t.reads D cd _ _ S (Row.drewN (hrd.belowAll hbW) _) (by omega) (by omega)).mono ?_;rintro e w5 ⟨rfl,hb5⟩;rw [E8.out];have q5:Below W.heap.size W w5:=below_then (below_drewN' (Below.refl _ W) _) (Nat.le_refl _) hb5;obtain⟨zt0,zt1,zt2,zt3,zt4,zt5,zt6,zt7,zt8,zt9,zt10,zt11,zt12,zs0,zs1,zs2,zs3,zp0,zp1⟩:=HZ.out _ q5) | (go_at_call 109;with_reducible refine(l12List_calls t.puts U cu _ _ S (hru.belowAll (below_then hbW hbW.size q5)) (by omega) (by omega)).mono ?_;rintro e w6 ⟨rfl,hb6⟩;rw [E9.out];have q6:Below W.heap.size W w6:=below_then q5 q5.size hb6;obtain⟨zt0,zt1,zt2,zt3,zt4,zt5,zt6,zt7,zt8,zt9,zt10,zt11,zt12,zs0,zs1,zs2,zs3,zp0,zp1⟩:=HZ.out _ q6) | (go_at_call 110;refine(l12Times_calls t s R O D U A (some ad) C cr co cd cu ca cb cc _ hc0 hc1 hlg).mono ?_;rintro e w7 ⟨rfl,hb7⟩;rw [E11.out];have q7:Below W.heap.size W w7:=below_then q6 q6.size hb7;obtain⟨zt0,zt1,zt2,zt3,zt4,zt5,zt6,zt7,zt8,zt9,zt10,zt11,zt12,zs0,zs1,zs2,zs3,zp0,zp1⟩:=HZ.out _ q7))
              go_ret
              refine⟨ret_bool ?_,(below_then hbW hbW.size q7)⟩
              rw [HTO2.out,E5.out,E6.out,E7.out,E8.out,E9.out,E10.out,E11.out]
              simp only [Bool.false_and,Bool.true_and,Bool.and_false]
             | true =>
              have E11:=Lib.hid e11
              clear e11
              cases e12:upOk s i with
              | false =>
               have E12:=Lib.hid e12
               clear e12
               go_wp2_with (first | (go_at_call 75;with_reducible refine(l2Nums_calls t.regs 3 R cr _ S (Row.drewN (hrr.belowAll hbW) _)).mono ?_;rintro e w' ⟨rfl,rfl⟩;rw [show (numsOk t.regs && ((t.regs.length:Int) == 3))=regsOk t.regs from rfl,E6.out]) | (go_at_call 75;with_reducible refine(l2Nums_calls t.old 3 O co _ S (Row.drewN (hro.belowAll hbW) _)).mono ?_;rintro e w' ⟨rfl,rfl⟩;rw [show (numsOk t.old && ((t.old.length:Int) == 3))=regsOk t.old from rfl,E7.out]) | (go_at_call 109;with_reducible refine(l12List_calls t.reads D cd _ _ S (Row.drewN (hrd.belowAll hbW) _) (by omega) (by omega)).mono ?_;rintro e w5 ⟨rfl,hb5⟩;rw [E8.out];have q5:Below W.heap.size W w5:=below_then (below_drewN' (Below.refl _ W) _) (Nat.le_refl _) hb5;obtain⟨zt0,zt1,zt2,zt3,zt4,zt5,zt6,zt7,zt8,zt9,zt10,zt11,zt12,zs0,zs1,zs2,zs3,zp0,zp1⟩:=HZ.out _ q5) | (go_at_call 109;with_reducible refine(l12List_calls t.puts U cu _ _ S (hru.belowAll (below_then hbW hbW.size q5)) (by omega) (by omega)).mono ?_;rintro e w6 ⟨rfl,hb6⟩;rw [E9.out];have q6:Below W.heap.size W w6:=below_then q5 q5.size hb6;obtain⟨zt0,zt1,zt2,zt3,zt4,zt5,zt6,zt7,zt8,zt9,zt10,zt11,zt12,zs0,zs1,zs2,zs3,zp0,zp1⟩:=HZ.out _ q6) | (go_at_call 110;refine(l12Times_calls t s R O D U A (some ad) C cr co cd cu ca cb cc _ hc0 hc1 hlg).mono ?_;rintro e w7 ⟨rfl,hb7⟩;rw [E11.out];have q7:Below W.heap.size W w7:=below_then q6 q6.size hb7;obtain⟨zt0,zt1,zt2,zt3,zt4,zt5,zt6,zt7,zt8,zt9,zt10,zt11,zt12,zs0,zs1,zs2,zs3,zp0,zp1⟩:=HZ.out _ q7) | (go_at_call 111;refine(l12Up_calls s i A (some ad) C ca cb cc _ S (hT.belowAll (below_then hbW hbW.size q7)) hi).mono ?_;rintro e w8 ⟨rfl,hb8⟩;rw [E12.out];have q8:Below W.heap.size W w8:=below_then q7 q7.size hb8;obtain⟨zt0,zt1,zt2,zt3,zt4,zt5,zt6,zt7,zt8,zt9,zt10,zt11,zt12,zs0,zs1,zs2,zs3,zp0,zp1⟩:=HZ.out _ q8))
               go_ret
               refine⟨ret_bool ?_,(below_then hbW hbW.size q8)⟩
               rw [HTO2.out,E5.out,E6.out,E7.out,E8.out,E9.out,E10.out,E11.out,E12.out]
               simp only [Bool.false_and,Bool.true_and,Bool.and_false]
              | true =>
               have E12:=Lib.hid e12
               clear e12
               go_wp2_with (first | (go_at_call 75;with_reducible refine(l2Nums_calls t.regs 3 R cr _ S (Row.drewN (hrr.belowAll hbW) _)).mono ?_;rintro e w' ⟨rfl,rfl⟩;rw [show (numsOk t.regs && ((t.regs.length:Int) == 3))=regsOk t.regs from rfl,E6.out]) | (go_at_call 75;with_reducible refine(l2Nums_calls t.old 3 O co _ S (Row.drewN (hro.belowAll hbW) _)).mono ?_;rintro e w' ⟨rfl,rfl⟩;rw [show (numsOk t.old && ((t.old.length:Int) == 3))=regsOk t.old from rfl,E7.out]) | (go_at_call 109;with_reducible refine(l12List_calls t.reads D cd _ _ S (Row.drewN (hrd.belowAll hbW) _) (by omega) (by omega)).mono ?_;rintro e w5 ⟨rfl,hb5⟩;rw [E8.out];have q5:Below W.heap.size W w5:=below_then (below_drewN' (Below.refl _ W) _) (Nat.le_refl _) hb5;obtain⟨zt0,zt1,zt2,zt3,zt4,zt5,zt6,zt7,zt8,zt9,zt10,zt11,zt12,zs0,zs1,zs2,zs3,zp0,zp1⟩:=HZ.out _ q5) | (go_at_call 109;with_reducible refine(l12List_calls t.puts U cu _ _ S (hru.belowAll (below_then hbW hbW.size q5)) (by omega) (by omega)).mono ?_;rintro e w6 ⟨rfl,hb6⟩;rw [E9.out];have q6:Below W.heap.size W w6:=below_then q5 q5.size hb6;obtain⟨zt0,zt1,zt2,zt3,zt4,zt5,zt6,zt7,zt8,zt9,zt10,zt11,zt12,zs0,zs1,zs2,zs3,zp0,zp1⟩:=HZ.out _ q6) | (go_at_call 110;refine(l12Times_calls t s R O D U A (some ad) C cr co cd cu ca cb cc _ hc0 hc1 hlg).mono ?_;rintro e w7 ⟨rfl,hb7⟩;rw [E11.out];have q7:Below W.heap.size W w7:=below_then q6 q6.size hb7;obtain⟨zt0,zt1,zt2,zt3,zt4,zt5,zt6,zt7,zt8,zt9,zt10,zt11,zt12,zs0,zs1,zs2,zs3,zp0,zp1⟩:=HZ.out _ q7) | (go_at_call 111;refine(l12Up_calls s i A (some ad) C ca cb cc _ S (hT.belowAll (below_then hbW hbW.size q7)) hi).mono ?_;rintro e w8 ⟨rfl,hb8⟩;rw [E12.out];have q8:Below W.heap.size W w8:=below_then q7 q7.size hb8;obtain⟨zt0,zt1,zt2,zt3,zt4,zt5,zt6,zt7,zt8,zt9,zt10,zt11,zt12,zs0,zs1,zs2,zs3,zp0,zp1⟩:=HZ.out _ q8) | (go_at_call 112;refine(l12Act_calls p s i P (some ae) A (some ad) C cp cq ca cb cc _ S (hQ.belowAll (below_then hbW hbW.size q8)) (hT.belowAll (below_then hbW hbW.size q8)) hi hn HBD.out.1 HBD.out.2 HFEW.out.1 HFEW.out.2).mono ?_;rintro e w9 ⟨rfl,hb9⟩;have q9:Below W.heap.size W w9:=below_then q8 q8.size hb9))
               go_ret
               refine⟨ret_bool ?_,(below_then hbW hbW.size q9)⟩
               rw [HTO2.out,E5.out,E6.out,E7.out,E8.out,E9.out,E10.out,E11.out,E12.out]
               simp only [Bool.false_and,Bool.true_and,Bool.and_false]
            ·have gs:((t.reads.length:Int)+t.puts.length == 0)=false:=beq_eq_false_iff_ne.2 hsm
             have HSM:=Lib.hid hsm
             clear hsm
             have E10:=Lib.hid (show (decide (t.stage≠0) || (decide (t.pos=0) && decide ((t.reads.length:Int)+t.puts.length=0)))=false by rw [decide_eq_false (fun h=>h F2.out),decide_eq_false HSM.out];simp)
             go_wp2_with (first | (go_at_call 75;with_reducible refine(l2Nums_calls t.regs 3 R cr _ S (Row.drewN (hrr.belowAll hbW) _)).mono ?_;rintro e w' ⟨rfl,rfl⟩;rw [show (numsOk t.regs && ((t.regs.length:Int) == 3))=regsOk t.regs from rfl,E6.out]) | (go_at_call 75;with_reducible refine(l2Nums_calls t.old 3 O co _ S (Row.drewN (hro.belowAll hbW) _)).mono ?_;rintro e w' ⟨rfl,rfl⟩;rw [show (numsOk t.old && ((t.old.length:Int) == 3))=regsOk t.old from rfl,E7.out]) | (go_at_call 109;with_reducible refine(l12List_calls t.reads D cd _ _ S (Row.drewN (hrd.belowAll hbW) _) (by omega) (by omega)).mono ?_;rintro e w5 ⟨rfl,hb5⟩;rw [E8.out];have q5:Below W.heap.size W w5:=below_then (below_drewN' (Below.refl _ W) _) (Nat.le_refl _) hb5;obtain⟨zt0,zt1,zt2,zt3,zt4,zt5,zt6,zt7,zt8,zt9,zt10,zt11,zt12,zs0,zs1,zs2,zs3,zp0,zp1⟩:=HZ.out _ q5) | (go_at_call 109;with_reducible refine(l12List_calls t.puts U cu _ _ S (hru.belowAll (below_then hbW hbW.size q5)) (by omega) (by omega)).mono ?_;rintro e w6 ⟨rfl,hb6⟩;rw [E9.out];have q6:Below W.heap.size W w6:=below_then q5 q5.size hb6;obtain⟨zt0,zt1,zt2,zt3,zt4,zt5,zt6,zt7,zt8,zt9,zt10,zt11,zt12,zs0,zs1,zs2,zs3,zp0,zp1⟩:=HZ.out _ q6))
             go_ret
             refine⟨ret_bool ?_,(below_then hbW hbW.size q6)⟩
             rw [HTO2.out,E5.out,E6.out,E7.out,E8.out,E9.out,E10.out]
             simp only [Bool.false_and,Bool.true_and,Bool.and_false]
           ·have gp:(t.pos == 0)=false:=by simp [hp0]
            have HP:=Lib.hid hp0
            clear hp0
            have E10:=Lib.hid (show (decide (t.stage≠0) || (decide (t.pos=0) && decide ((t.reads.length:Int)+t.puts.length=0)))=false by rw [decide_eq_false (fun h=>h F2.out),decide_eq_false HP.out];simp)
            go_wp2_with (first | (go_at_call 75;with_reducible refine(l2Nums_calls t.regs 3 R cr _ S (Row.drewN (hrr.belowAll hbW) _)).mono ?_;rintro e w' ⟨rfl,rfl⟩;rw [show (numsOk t.regs && ((t.regs.length:Int) == 3))=regsOk t.regs from rfl,E6.out]) | (go_at_call 75;with_reducible refine(l2Nums_calls t.old 3 O co _ S (Row.drewN (hro.belowAll hbW) _)).mono ?_;rintro e w' ⟨rfl,rfl⟩;rw [show (numsOk t.old && ((t.old.length:Int) == 3))=regsOk t.old from rfl,E7.out]) | (go_at_call 109;with_reducible refine(l12List_calls t.reads D cd _ _ S (Row.drewN (hrd.belowAll hbW) _) (by omega) (by omega)).mono ?_;rintro e w5 ⟨rfl,hb5⟩;rw [E8.out];have q5:Below W.heap.size W w5:=below_then (below_drewN' (Below.refl _ W) _) (Nat.le_refl _) hb5;obtain⟨zt0,zt1,zt2,zt3,zt4,zt5,zt6,zt7,zt8,zt9,zt10,zt11,zt12,zs0,zs1,zs2,zs3,zp0,zp1⟩:=HZ.out _ q5) | (go_at_call 109;with_reducible refine(l12List_calls t.puts U cu _ _ S (hru.belowAll (below_then hbW hbW.size q5)) (by omega) (by omega)).mono ?_;rintro e w6 ⟨rfl,hb6⟩;rw [E9.out];have q6:Below W.heap.size W w6:=below_then q5 q5.size hb6;obtain⟨zt0,zt1,zt2,zt3,zt4,zt5,zt6,zt7,zt8,zt9,zt10,zt11,zt12,zs0,zs1,zs2,zs3,zp0,zp1⟩:=HZ.out _ q6))
            go_ret
            refine⟨ret_bool ?_,(below_then hbW hbW.size q6)⟩
            rw [HTO2.out,E5.out,E6.out,E7.out,E8.out,E9.out,E10.out]
            simp only [Bool.false_and,Bool.true_and,Bool.and_false]
      ·have g1:(t.way != 0)=false:=by simp [f1]
       have g2:(t.stage != 0)=true:=by simp [f2]
       have E5:=Lib.hid (show (decide (t.way=0) || decide (t.stage=0))=true by simp [f1,f2])
       have F2:=Lib.hid f2
       clear f1 f2
       cases e6:regsOk t.regs with
       | false =>
        have E6:=Lib.hid e6
        clear e6
        go_wp2_with (first | (go_at_call 75;with_reducible refine(l2Nums_calls t.regs 3 R cr _ S (Row.drewN (hrr.belowAll hbW) _)).mono ?_;rintro e w' ⟨rfl,rfl⟩;rw [show (numsOk t.regs && ((t.regs.length:Int) == 3))=regsOk t.regs from rfl,E6.out]))
        go_ret
        refine⟨ret_bool ?_,(below_drewN' hbW _)⟩
        rw [HTO2.out,E5.out,E6.out]
        simp only [Bool.false_and,Bool.true_and,Bool.and_false]
       | true =>
        have E6:=Lib.hid e6
        clear e6
        cases e7:regsOk t.old with
        | false =>
         have E7:=Lib.hid e7
         clear e7
         go_wp2_with (first | (go_at_call 75;with_reducible refine(l2Nums_calls t.regs 3 R cr _ S (Row.drewN (hrr.belowAll hbW) _)).mono ?_;rintro e w' ⟨rfl,rfl⟩;rw [show (numsOk t.regs && ((t.regs.length:Int) == 3))=regsOk t.regs from rfl,E6.out]) | (go_at_call 75;with_reducible refine(l2Nums_calls t.old 3 O co _ S (Row.drewN (hro.belowAll hbW) _)).mono ?_;rintro e w' ⟨rfl,rfl⟩;rw [show (numsOk t.old && ((t.old.length:Int) == 3))=regsOk t.old from rfl,E7.out]))
         go_ret
         refine⟨ret_bool ?_,(below_drewN' hbW _)⟩
         rw [HTO2.out,E5.out,E6.out,E7.out]
         simp only [Bool.false_and,Bool.true_and,Bool.and_false]
        | true =>
         have E7:=Lib.hid e7
         clear e7
         cases e8:putsOk t.reads s.cells.length with
         | false =>
          have E8:=Lib.hid e8
          clear e8
          go_wp2_with (first | (go_at_call 75;with_reducible refine(l2Nums_calls t.regs 3 R cr _ S (Row.drewN (hrr.belowAll hbW) _)).mono ?_;rintro e w' ⟨rfl,rfl⟩;rw [show (numsOk t.regs && ((t.regs.length:Int) == 3))=regsOk t.regs from rfl,E6.out]) | (go_at_call 75;with_reducible refine(l2Nums_calls t.old 3 O co _ S (Row.drewN (hro.belowAll hbW) _)).mono ?_;rintro e w' ⟨rfl,rfl⟩;rw [show (numsOk t.old && ((t.old.length:Int) == 3))=regsOk t.old from rfl,E7.out]) | (go_at_call 109;with_reducible refine(l12List_calls t.reads D cd _ _ S (Row.drewN (hrd.belowAll hbW) _) (by omega) (by omega)).mono ?_;rintro e w5 ⟨rfl,hb5⟩;rw [E8.out];have q5:Below W.heap.size W w5:=below_then (below_drewN' (Below.refl _ W) _) (Nat.le_refl _) hb5;obtain⟨zt0,zt1,zt2,zt3,zt4,zt5,zt6,zt7,zt8,zt9,zt10,zt11,zt12,zs0,zs1,zs2,zs3,zp0,zp1⟩:=HZ.out _ q5))
          go_ret
          refine⟨ret_bool ?_,(below_then hbW hbW.size q5)⟩
          rw [HTO2.out,E5.out,E6.out,E7.out,E8.out]
          simp only [Bool.false_and,Bool.true_and,Bool.and_false]
         | true =>
          have E8:=Lib.hid e8
          have hd:=putsOk_few e8 (by omega)
          clear e8
          cases e9:putsOk t.puts s.cells.length with
          | false =>
           have E9:=Lib.hid e9
           clear e9
           go_wp2_with (first | (go_at_call 75;with_reducible refine(l2Nums_calls t.regs 3 R cr _ S (Row.drewN (hrr.belowAll hbW) _)).mono ?_;rintro e w' ⟨rfl,rfl⟩;rw [show (numsOk t.regs && ((t.regs.length:Int) == 3))=regsOk t.regs from rfl,E6.out]) | (go_at_call 75;with_reducible refine(l2Nums_calls t.old 3 O co _ S (Row.drewN (hro.belowAll hbW) _)).mono ?_;rintro e w' ⟨rfl,rfl⟩;rw [show (numsOk t.old && ((t.old.length:Int) == 3))=regsOk t.old from rfl,E7.out]) | (go_at_call 109;with_reducible refine(l12List_calls t.reads D cd _ _ S (Row.drewN (hrd.belowAll hbW) _) (by omega) (by omega)).mono ?_;rintro e w5 ⟨rfl,hb5⟩;rw [E8.out];have q5:Below W.heap.size W w5:=below_then (below_drewN' (Below.refl _ W) _) (Nat.le_refl _) hb5;obtain⟨zt0,zt1,zt2,zt3,zt4,zt5,zt6,zt7,zt8,zt9,zt10,zt11,zt12,zs0,zs1,zs2,zs3,zp0,zp1⟩:=HZ.out _ q5) | (go_at_call 109;with_reducible refine(l12List_calls t.puts U cu _ _ S (hru.belowAll (below_then hbW hbW.size q5)) (by omega) (by omega)).mono ?_;rintro e w6 ⟨rfl,hb6⟩;rw [E9.out];have q6:Below W.heap.size W w6:=below_then q5 q5.size hb6;obtain⟨zt0,zt1,zt2,zt3,zt4,zt5,zt6,zt7,zt8,zt9,zt10,zt11,zt12,zs0,zs1,zs2,zs3,zp0,zp1⟩:=HZ.out _ q6))
           go_ret
           refine⟨ret_bool ?_,(below_then hbW hbW.size q6)⟩
           rw [HTO2.out,E5.out,E6.out,E7.out,E8.out,E9.out]
           simp only [Bool.false_and,Bool.true_and,Bool.and_false]
          | true =>
           have E9:=Lib.hid e9
           have hu:=putsOk_few e9 (by omega)
           clear e9
           have hsum:IntKind.i64.wrap ((t.reads.length:Int)+t.puts.length)=(t.reads.length:Int)+t.puts.length:=IntWalk.i64_in _ (by omega)
           have HFEW:=Lib.hid (show (s.t i).reads.length≤1000∧(s.t i).puts.length≤1000 by rw [← HTT.out];omega)
           have HBD:=Lib.hid (show (0≤(s.t i).body∧(s.t i).body<p.bodies.length)∧(0≤(s.t i).pc∧(s.t i).pc≤(p.acts (s.t i).body).length) by rw [← HTT.out,HAC.out];have h1:=HBB.out.1;have h2:=E2.out;simp [inR] at h2;omega)
           have E10:=Lib.hid (show (decide (t.stage≠0) || (decide (t.pos=0) && decide ((t.reads.length:Int)+t.puts.length=0)))=true by rw [decide_eq_true F2.out];rfl)
           cases e11:timesOk t s.clock s.log.length with
           | false =>
            have E11:=Lib.hid e11
            clear e11
            go_wp2_with (first | (go_at_call 75;with_reducible refine(l2Nums_calls t.regs 3 R cr _ S (Row.drewN (hrr.belowAll hbW) _)).mono ?_;rintro e w' ⟨rfl,rfl⟩;rw [show (numsOk t.regs && ((t.regs.length:Int) == 3))=regsOk t.regs from rfl,E6.out]) | (go_at_call 75;with_reducible refine(l2Nums_calls t.old 3 O co _ S (Row.drewN (hro.belowAll hbW) _)).mono ?_;rintro e w' ⟨rfl,rfl⟩;rw [show (numsOk t.old && ((t.old.length:Int) == 3))=regsOk t.old from rfl,E7.out]) | (go_at_call 109;with_reducible refine(l12List_calls t.reads D cd _ _ S (Row.drewN (hrd.belowAll hbW) _) (by omega) (by omega)).mono ?_;rintro e w5 ⟨rfl,hb5⟩;rw [E8.out];have q5:Below W.heap.size W w5:=below_then (below_drewN' (Below.refl _ W) _) (Nat.le_refl _) hb5;obtain⟨zt0,zt1,zt2,zt3,zt4,zt5,zt6,zt7,zt8,zt9,zt10,zt11,zt12,zs0,zs1,zs2,zs3,zp0,zp1⟩:=HZ.out _ q5) | (go_at_call 109;with_reducible refine(l12List_calls t.puts U cu _ _ S (hru.belowAll (below_then hbW hbW.size q5)) (by omega) (by omega)).mono ?_;rintro e w6 ⟨rfl,hb6⟩;rw [E9.out];have q6:Below W.heap.size W w6:=below_then q5 q5.size hb6;obtain⟨zt0,zt1,zt2,zt3,zt4,zt5,zt6,zt7,zt8,zt9,zt10,zt11,zt12,zs0,zs1,zs2,zs3,zp0,zp1⟩:=HZ.out _ q6) | (go_at_call 110;refine(l12Times_calls t s R O D U A (some ad) C cr co cd cu ca cb cc _ hc0 hc1 hlg).mono ?_;rintro e w7 ⟨rfl,hb7⟩;rw [E11.out];have q7:Below W.heap.size W w7:=below_then q6 q6.size hb7;obtain⟨zt0,zt1,zt2,zt3,zt4,zt5,zt6,zt7,zt8,zt9,zt10,zt11,zt12,zs0,zs1,zs2,zs3,zp0,zp1⟩:=HZ.out _ q7))
            go_ret
            refine⟨ret_bool ?_,(below_then hbW hbW.size q7)⟩
            rw [HTO2.out,E5.out,E6.out,E7.out,E8.out,E9.out,E10.out,E11.out]
            simp only [Bool.false_and,Bool.true_and,Bool.and_false]
           | true =>
            have E11:=Lib.hid e11
            clear e11
            cases e12:upOk s i with
            | false =>
             have E12:=Lib.hid e12
             clear e12
             go_wp2_with (first | (go_at_call 75;with_reducible refine(l2Nums_calls t.regs 3 R cr _ S (Row.drewN (hrr.belowAll hbW) _)).mono ?_;rintro e w' ⟨rfl,rfl⟩;rw [show (numsOk t.regs && ((t.regs.length:Int) == 3))=regsOk t.regs from rfl,E6.out]) | (go_at_call 75;with_reducible refine(l2Nums_calls t.old 3 O co _ S (Row.drewN (hro.belowAll hbW) _)).mono ?_;rintro e w' ⟨rfl,rfl⟩;rw [show (numsOk t.old && ((t.old.length:Int) == 3))=regsOk t.old from rfl,E7.out]) | (go_at_call 109;with_reducible refine(l12List_calls t.reads D cd _ _ S (Row.drewN (hrd.belowAll hbW) _) (by omega) (by omega)).mono ?_;rintro e w5 ⟨rfl,hb5⟩;rw [E8.out];have q5:Below W.heap.size W w5:=below_then (below_drewN' (Below.refl _ W) _) (Nat.le_refl _) hb5;obtain⟨zt0,zt1,zt2,zt3,zt4,zt5,zt6,zt7,zt8,zt9,zt10,zt11,zt12,zs0,zs1,zs2,zs3,zp0,zp1⟩:=HZ.out _ q5) | (go_at_call 109;with_reducible refine(l12List_calls t.puts U cu _ _ S (hru.belowAll (below_then hbW hbW.size q5)) (by omega) (by omega)).mono ?_;rintro e w6 ⟨rfl,hb6⟩;rw [E9.out];have q6:Below W.heap.size W w6:=below_then q5 q5.size hb6;obtain⟨zt0,zt1,zt2,zt3,zt4,zt5,zt6,zt7,zt8,zt9,zt10,zt11,zt12,zs0,zs1,zs2,zs3,zp0,zp1⟩:=HZ.out _ q6) | (go_at_call 110;refine(l12Times_calls t s R O D U A (some ad) C cr co cd cu ca cb cc _ hc0 hc1 hlg).mono ?_;rintro e w7 ⟨rfl,hb7⟩;rw [E11.out];have q7:Below W.heap.size W w7:=below_then q6 q6.size hb7;obtain⟨zt0,zt1,zt2,zt3,zt4,zt5,zt6,zt7,zt8,zt9,zt10,zt11,zt12,zs0,zs1,zs2,zs3,zp0,zp1⟩:=HZ.out _ q7) | (go_at_call 111;refine(l12Up_calls s i A (some ad) C ca cb cc _ S (hT.belowAll (below_then hbW hbW.size q7)) hi).mono ?_;rintro e w8 ⟨rfl,hb8⟩;rw [E12.out];have q8:Below W.heap.size W w8:=below_then q7 q7.size hb8;obtain⟨zt0,zt1,zt2,zt3,zt4,zt5,zt6,zt7,zt8,zt9,zt10,zt11,zt12,zs0,zs1,zs2,zs3,zp0,zp1⟩:=HZ.out _ q8))
             go_ret
             refine⟨ret_bool ?_,(below_then hbW hbW.size q8)⟩
             rw [HTO2.out,E5.out,E6.out,E7.out,E8.out,E9.out,E10.out,E11.out,E12.out]
             simp only [Bool.false_and,Bool.true_and,Bool.and_false]
            | true =>
             have E12:=Lib.hid e12
             clear e12
             go_wp2_with (first | (go_at_call 75;with_reducible refine(l2Nums_calls t.regs 3 R cr _ S (Row.drewN (hrr.belowAll hbW) _)).mono ?_;rintro e w' ⟨rfl,rfl⟩;rw [show (numsOk t.regs && ((t.regs.length:Int) == 3))=regsOk t.regs from rfl,E6.out]) | (go_at_call 75;with_reducible refine(l2Nums_calls t.old 3 O co _ S (Row.drewN (hro.belowAll hbW) _)).mono ?_;rintro e w' ⟨rfl,rfl⟩;rw [show (numsOk t.old && ((t.old.length:Int) == 3))=regsOk t.old from rfl,E7.out]) | (go_at_call 109;with_reducible refine(l12List_calls t.reads D cd _ _ S (Row.drewN (hrd.belowAll hbW) _) (by omega) (by omega)).mono ?_;rintro e w5 ⟨rfl,hb5⟩;rw [E8.out];have q5:Below W.heap.size W w5:=below_then (below_drewN' (Below.refl _ W) _) (Nat.le_refl _) hb5;obtain⟨zt0,zt1,zt2,zt3,zt4,zt5,zt6,zt7,zt8,zt9,zt10,zt11,zt12,zs0,zs1,zs2,zs3,zp0,zp1⟩:=HZ.out _ q5) | (go_at_call 109;with_reducible refine(l12List_calls t.puts U cu _ _ S (hru.belowAll (below_then hbW hbW.size q5)) (by omega) (by omega)).mono ?_;rintro e w6 ⟨rfl,hb6⟩;rw [E9.out];have q6:Below W.heap.size W w6:=below_then q5 q5.size hb6;obtain⟨zt0,zt1,zt2,zt3,zt4,zt5,zt6,zt7,zt8,zt9,zt10,zt11,zt12,zs0,zs1,zs2,zs3,zp0,zp1⟩:=HZ.out _ q6) | (go_at_call 110;refine(l12Times_calls t s R O D U A (some ad) C cr co cd cu ca cb cc _ hc0 hc1 hlg).mono ?_;rintro e w7 ⟨rfl,hb7⟩;rw [E11.out];have q7:Below W.heap.size W w7:=below_then q6 q6.size hb7;obtain⟨zt0,zt1,zt2,zt3,zt4,zt5,zt6,zt7,zt8,zt9,zt10,zt11,zt12,zs0,zs1,zs2,zs3,zp0,zp1⟩:=HZ.out _ q7) | (go_at_call 111;refine(l12Up_calls s i A (some ad) C ca cb cc _ S (hT.belowAll (below_then hbW hbW.size q7)) hi).mono ?_;rintro e w8 ⟨rfl,hb8⟩;rw [E12.out];have q8:Below W.heap.size W w8:=below_then q7 q7.size hb8;obtain⟨zt0,zt1,zt2,zt3,zt4,zt5,zt6,zt7,zt8,zt9,zt10,zt11,zt12,zs0,zs1,zs2,zs3,zp0,zp1⟩:=HZ.out _ q8) | (go_at_call 112;refine(l12Act_calls p s i P (some ae) A (some ad) C cp cq ca cb cc _ S (hQ.belowAll (below_then hbW hbW.size q8)) (hT.belowAll (below_then hbW hbW.size q8)) hi hn HBD.out.1 HBD.out.2 HFEW.out.1 HFEW.out.2).mono ?_;rintro e w9 ⟨rfl,hb9⟩;have q9:Below W.heap.size W w9:=below_then q8 q8.size hb9))
             go_ret
             refine⟨ret_bool ?_,(below_then hbW hbW.size q9)⟩
             rw [HTO2.out,E5.out,E6.out,E7.out,E8.out,E9.out,E10.out,E11.out,E12.out]
             simp only [Bool.false_and,Bool.true_and,Bool.and_false]
     ·by_cases f2:t.stage=0
      ·have g1:(t.way != 0)=true:=by simp [f1]
       have g2:(t.stage != 0)=false:=by simp [f2]
       have E5:=Lib.hid (show (decide (t.way=0) || decide (t.stage=0))=true by simp [f1,f2])
       have F2:=Lib.hid f2
       clear f1 f2
       cases e6:regsOk t.regs with
       | false =>
        have E6:=Lib.hid e6
        clear e6
        go_wp2_with (first | (go_at_call 75;with_reducible refine(l2Nums_calls t.regs 3 R cr _ S (Row.drewN (hrr.belowAll hbW) _)).mono ?_;rintro e w' ⟨rfl,rfl⟩;rw [show (numsOk t.regs && ((t.regs.length:Int) == 3))=regsOk t.regs from rfl,E6.out]))
        go_ret
        refine⟨ret_bool ?_,(below_drewN' hbW _)⟩
        rw [HTO2.out,E5.out,E6.out]
        simp only [Bool.false_and,Bool.true_and,Bool.and_false]
       | true =>
        have E6:=Lib.hid e6
        clear e6
        cases e7:regsOk t.old with
        | false =>
         have E7:=Lib.hid e7
         clear e7
         go_wp2_with (first | (go_at_call 75;with_reducible refine(l2Nums_calls t.regs 3 R cr _ S (Row.drewN (hrr.belowAll hbW) _)).mono ?_;rintro e w' ⟨rfl,rfl⟩;rw [show (numsOk t.regs && ((t.regs.length:Int) == 3))=regsOk t.regs from rfl,E6.out]) | (go_at_call 75;with_reducible refine(l2Nums_calls t.old 3 O co _ S (Row.drewN (hro.belowAll hbW) _)).mono ?_;rintro e w' ⟨rfl,rfl⟩;rw [show (numsOk t.old && ((t.old.length:Int) == 3))=regsOk t.old from rfl,E7.out]))
         go_ret
         refine⟨ret_bool ?_,(below_drewN' hbW _)⟩
         rw [HTO2.out,E5.out,E6.out,E7.out]
         simp only [Bool.false_and,Bool.true_and,Bool.and_false]
        | true =>
         have E7:=Lib.hid e7
         clear e7
         cases e8:putsOk t.reads s.cells.length with
         | false =>
          have E8:=Lib.hid e8
          clear e8
          go_wp2_with (first | (go_at_call 75;with_reducible refine(l2Nums_calls t.regs 3 R cr _ S (Row.drewN (hrr.belowAll hbW) _)).mono ?_;rintro e w' ⟨rfl,rfl⟩;rw [show (numsOk t.regs && ((t.regs.length:Int) == 3))=regsOk t.regs from rfl,E6.out]) | (go_at_call 75;with_reducible refine(l2Nums_calls t.old 3 O co _ S (Row.drewN (hro.belowAll hbW) _)).mono ?_;rintro e w' ⟨rfl,rfl⟩;rw [show (numsOk t.old && ((t.old.length:Int) == 3))=regsOk t.old from rfl,E7.out]) | (go_at_call 109;with_reducible refine(l12List_calls t.reads D cd _ _ S (Row.drewN (hrd.belowAll hbW) _) (by omega) (by omega)).mono ?_;rintro e w5 ⟨rfl,hb5⟩;rw [E8.out];have q5:Below W.heap.size W w5:=below_then (below_drewN' (Below.refl _ W) _) (Nat.le_refl _) hb5;obtain⟨zt0,zt1,zt2,zt3,zt4,zt5,zt6,zt7,zt8,zt9,zt10,zt11,zt12,zs0,zs1,zs2,zs3,zp0,zp1⟩:=HZ.out _ q5))
          go_ret
          refine⟨ret_bool ?_,(below_then hbW hbW.size q5)⟩
          rw [HTO2.out,E5.out,E6.out,E7.out,E8.out]
          simp only [Bool.false_and,Bool.true_and,Bool.and_false]
         | true =>
          have E8:=Lib.hid e8
          have hd:=putsOk_few e8 (by omega)
          clear e8
          cases e9:putsOk t.puts s.cells.length with
          | false =>
           have E9:=Lib.hid e9
           clear e9
           go_wp2_with (first | (go_at_call 75;with_reducible refine(l2Nums_calls t.regs 3 R cr _ S (Row.drewN (hrr.belowAll hbW) _)).mono ?_;rintro e w' ⟨rfl,rfl⟩;rw [show (numsOk t.regs && ((t.regs.length:Int) == 3))=regsOk t.regs from rfl,E6.out]) | (go_at_call 75;with_reducible refine(l2Nums_calls t.old 3 O co _ S (Row.drewN (hro.belowAll hbW) _)).mono ?_;rintro e w' ⟨rfl,rfl⟩;rw [show (numsOk t.old && ((t.old.length:Int) == 3))=regsOk t.old from rfl,E7.out]) | (go_at_call 109;with_reducible refine(l12List_calls t.reads D cd _ _ S (Row.drewN (hrd.belowAll hbW) _) (by omega) (by omega)).mono ?_;rintro e w5 ⟨rfl,hb5⟩;rw [E8.out];have q5:Below W.heap.size W w5:=below_then (below_drewN' (Below.refl _ W) _) (Nat.le_refl _) hb5;obtain⟨zt0,zt1,zt2,zt3,zt4,zt5,zt6,zt7,zt8,zt9,zt10,zt11,zt12,zs0,zs1,zs2,zs3,zp0,zp1⟩:=HZ.out _ q5) | (go_at_call 109;with_reducible refine(l12List_calls t.puts U cu _ _ S (hru.belowAll (below_then hbW hbW.size q5)) (by omega) (by omega)).mono ?_;rintro e w6 ⟨rfl,hb6⟩;rw [E9.out];have q6:Below W.heap.size W w6:=below_then q5 q5.size hb6;obtain⟨zt0,zt1,zt2,zt3,zt4,zt5,zt6,zt7,zt8,zt9,zt10,zt11,zt12,zs0,zs1,zs2,zs3,zp0,zp1⟩:=HZ.out _ q6))
           go_ret
           refine⟨ret_bool ?_,(below_then hbW hbW.size q6)⟩
           rw [HTO2.out,E5.out,E6.out,E7.out,E8.out,E9.out]
           simp only [Bool.false_and,Bool.true_and,Bool.and_false]
          | true =>
           have E9:=Lib.hid e9
           have hu:=putsOk_few e9 (by omega)
           clear e9
           have hsum:IntKind.i64.wrap ((t.reads.length:Int)+t.puts.length)=(t.reads.length:Int)+t.puts.length:=IntWalk.i64_in _ (by omega)
           have HFEW:=Lib.hid (show (s.t i).reads.length≤1000∧(s.t i).puts.length≤1000 by rw [← HTT.out];omega)
           have HBD:=Lib.hid (show (0≤(s.t i).body∧(s.t i).body<p.bodies.length)∧(0≤(s.t i).pc∧(s.t i).pc≤(p.acts (s.t i).body).length) by rw [← HTT.out,HAC.out];have h1:=HBB.out.1;have h2:=E2.out;simp [inR] at h2;omega)
           by_cases hp0:t.pos=0
           ·have gp:(t.pos == 0)=true:=by simp [hp0]
            have HP:=Lib.hid hp0
            clear hp0
            by_cases hsm:(t.reads.length:Int)+t.puts.length=0
            ·have gs:((t.reads.length:Int)+t.puts.length == 0)=true:=by simp only [hsm];rfl
             have HSM:=Lib.hid hsm
             clear hsm
             have E10:=Lib.hid (show (decide (t.stage≠0) || (decide (t.pos=0) && decide ((t.reads.length:Int)+t.puts.length=0)))=true by rw [decide_eq_true HP.out,decide_eq_true HSM.out];simp)
             cases e11:timesOk t s.clock s.log.length with
             | false =>
              have E11:=Lib.hid e11
              clear e11
              go_wp2_with (first | (go_at_call 75;with_reducible refine(l2Nums_calls t.regs 3 R cr _ S (Row.drewN (hrr.belowAll hbW) _)).mono ?_;rintro e w' ⟨rfl,rfl⟩;rw [show (numsOk t.regs && ((t.regs.length:Int) == 3))=regsOk t.regs from rfl,E6.out]) | (go_at_call 75;with_reducible refine(l2Nums_calls t.old 3 O co _ S (Row.drewN (hro.belowAll hbW) _)).mono ?_;rintro e w' ⟨rfl,rfl⟩;rw [show (numsOk t.old && ((t.old.length:Int) == 3))=regsOk t.old from rfl,E7.out]) | (go_at_call 109;with_reducible refine(l12List_calls t.reads D cd _ _ S (Row.drewN (hrd.belowAll hbW) _) (by omega) (by omega)).mono ?_;rintro e w5 ⟨rfl,hb5⟩;rw [E8.out];have q5:Below W.heap.size W w5:=below_then (below_drewN' (Below.refl _ W) _) (Nat.le_refl _) hb5;obtain⟨zt0,zt1,zt2,zt3,zt4,zt5,zt6,zt7,zt8,zt9,zt10,zt11,zt12,zs0,zs1,zs2,zs3,zp0,zp1⟩:=HZ.out _ q5) | (go_at_call 109;with_reducible refine(l12List_calls t.puts U cu _ _ S (hru.belowAll (below_then hbW hbW.size q5)) (by omega) (by omega)).mono ?_;rintro e w6 ⟨rfl,hb6⟩;rw [E9.out];have q6:Below W.heap.size W w6:=below_then q5 q5.size hb6;obtain⟨zt0,zt1,zt2,zt3,zt4,zt5,zt6,zt7,zt8,zt9,zt10,zt11,zt12,zs0,zs1,zs2,zs3,zp0,zp1⟩:=HZ.out _ q6) | (go_at_call 110;refine(l12Times_calls t s R O D U A (some ad) C cr co cd cu ca cb cc _ hc0 hc1 hlg).mono ?_;rintro e w7 ⟨rfl,hb7⟩;rw [E11.out];have q7:Below W.heap.size W w7:=below_then q6 q6.size hb7;obtain⟨zt0,zt1,zt2,zt3,zt4,zt5,zt6,zt7,zt8,zt9,zt10,zt11,zt12,zs0,zs1,zs2,zs3,zp0,zp1⟩:=HZ.out _ q7))
              go_ret
              refine⟨ret_bool ?_,(below_then hbW hbW.size q7)⟩
              rw [HTO2.out,E5.out,E6.out,E7.out,E8.out,E9.out,E10.out,E11.out]
              simp only [Bool.false_and,Bool.true_and,Bool.and_false]
             | true =>
              have E11:=Lib.hid e11
              clear e11
              cases e12:upOk s i with
              | false =>
               have E12:=Lib.hid e12
               clear e12
               go_wp2_with (first | (go_at_call 75;with_reducible refine(l2Nums_calls t.regs 3 R cr _ S (Row.drewN (hrr.belowAll hbW) _)).mono ?_;rintro e w' ⟨rfl,rfl⟩;rw [show (numsOk t.regs && ((t.regs.length:Int) == 3))=regsOk t.regs from rfl,E6.out]) | (go_at_call 75;with_reducible refine(l2Nums_calls t.old 3 O co _ S (Row.drewN (hro.belowAll hbW) _)).mono ?_;rintro e w' ⟨rfl,rfl⟩;rw [show (numsOk t.old && ((t.old.length:Int) == 3))=regsOk t.old from rfl,E7.out]) | (go_at_call 109;with_reducible refine(l12List_calls t.reads D cd _ _ S (Row.drewN (hrd.belowAll hbW) _) (by omega) (by omega)).mono ?_;rintro e w5 ⟨rfl,hb5⟩;rw [E8.out];have q5:Below W.heap.size W w5:=below_then (below_drewN' (Below.refl _ W) _) (Nat.le_refl _) hb5;obtain⟨zt0,zt1,zt2,zt3,zt4,zt5,zt6,zt7,zt8,zt9,zt10,zt11,zt12,zs0,zs1,zs2,zs3,zp0,zp1⟩:=HZ.out _ q5) | (go_at_call 109;with_reducible refine(l12List_calls t.puts U cu _ _ S (hru.belowAll (below_then hbW hbW.size q5)) (by omega) (by omega)).mono ?_;rintro e w6 ⟨rfl,hb6⟩;rw [E9.out];have q6:Below W.heap.size W w6:=below_then q5 q5.size hb6;obtain⟨zt0,zt1,zt2,zt3,zt4,zt5,zt6,zt7,zt8,zt9,zt10,zt11,zt12,zs0,zs1,zs2,zs3,zp0,zp1⟩:=HZ.out _ q6) | (go_at_call 110;refine(l12Times_calls t s R O D U A (some ad) C cr co cd cu ca cb cc _ hc0 hc1 hlg).mono ?_;rintro e w7 ⟨rfl,hb7⟩;rw [E11.out];have q7:Below W.heap.size W w7:=below_then q6 q6.size hb7;obtain⟨zt0,zt1,zt2,zt3,zt4,zt5,zt6,zt7,zt8,zt9,zt10,zt11,zt12,zs0,zs1,zs2,zs3,zp0,zp1⟩:=HZ.out _ q7) | (go_at_call 111;refine(l12Up_calls s i A (some ad) C ca cb cc _ S (hT.belowAll (below_then hbW hbW.size q7)) hi).mono ?_;rintro e w8 ⟨rfl,hb8⟩;rw [E12.out];have q8:Below W.heap.size W w8:=below_then q7 q7.size hb8;obtain⟨zt0,zt1,zt2,zt3,zt4,zt5,zt6,zt7,zt8,zt9,zt10,zt11,zt12,zs0,zs1,zs2,zs3,zp0,zp1⟩:=HZ.out _ q8))
               go_ret
               refine⟨ret_bool ?_,(below_then hbW hbW.size q8)⟩
               rw [HTO2.out,E5.out,E6.out,E7.out,E8.out,E9.out,E10.out,E11.out,E12.out]
               simp only [Bool.false_and,Bool.true_and,Bool.and_false]
              | true =>
               have E12:=Lib.hid e12
               clear e12
               go_wp2_with (first | (go_at_call 75;with_reducible refine(l2Nums_calls t.regs 3 R cr _ S (Row.drewN (hrr.belowAll hbW) _)).mono ?_;rintro e w' ⟨rfl,rfl⟩;rw [show (numsOk t.regs && ((t.regs.length:Int) == 3))=regsOk t.regs from rfl,E6.out]) | (go_at_call 75;with_reducible refine(l2Nums_calls t.old 3 O co _ S (Row.drewN (hro.belowAll hbW) _)).mono ?_;rintro e w' ⟨rfl,rfl⟩;rw [show (numsOk t.old && ((t.old.length:Int) == 3))=regsOk t.old from rfl,E7.out]) | (go_at_call 109;with_reducible refine(l12List_calls t.reads D cd _ _ S (Row.drewN (hrd.belowAll hbW) _) (by omega) (by omega)).mono ?_;rintro e w5 ⟨rfl,hb5⟩;rw [E8.out];have q5:Below W.heap.size W w5:=below_then (below_drewN' (Below.refl _ W) _) (Nat.le_refl _) hb5;obtain⟨zt0,zt1,zt2,zt3,zt4,zt5,zt6,zt7,zt8,zt9,zt10,zt11,zt12,zs0,zs1,zs2,zs3,zp0,zp1⟩:=HZ.out _ q5) | (go_at_call 109;with_reducible refine(l12List_calls t.puts U cu _ _ S (hru.belowAll (below_then hbW hbW.size q5)) (by omega) (by omega)).mono ?_;rintro e w6 ⟨rfl,hb6⟩;rw [E9.out];have q6:Below W.heap.size W w6:=below_then q5 q5.size hb6;obtain⟨zt0,zt1,zt2,zt3,zt4,zt5,zt6,zt7,zt8,zt9,zt10,zt11,zt12,zs0,zs1,zs2,zs3,zp0,zp1⟩:=HZ.out _ q6) | (go_at_call 110;refine(l12Times_calls t s R O D U A (some ad) C cr co cd cu ca cb cc _ hc0 hc1 hlg).mono ?_;rintro e w7 ⟨rfl,hb7⟩;rw [E11.out];have q7:Below W.heap.size W w7:=below_then q6 q6.size hb7;obtain⟨zt0,zt1,zt2,zt3,zt4,zt5,zt6,zt7,zt8,zt9,zt10,zt11,zt12,zs0,zs1,zs2,zs3,zp0,zp1⟩:=HZ.out _ q7) | (go_at_call 111;refine(l12Up_calls s i A (some ad) C ca cb cc _ S (hT.belowAll (below_then hbW hbW.size q7)) hi).mono ?_;rintro e w8 ⟨rfl,hb8⟩;rw [E12.out];have q8:Below W.heap.size W w8:=below_then q7 q7.size hb8;obtain⟨zt0,zt1,zt2,zt3,zt4,zt5,zt6,zt7,zt8,zt9,zt10,zt11,zt12,zs0,zs1,zs2,zs3,zp0,zp1⟩:=HZ.out _ q8) | (go_at_call 112;refine(l12Act_calls p s i P (some ae) A (some ad) C cp cq ca cb cc _ S (hQ.belowAll (below_then hbW hbW.size q8)) (hT.belowAll (below_then hbW hbW.size q8)) hi hn HBD.out.1 HBD.out.2 HFEW.out.1 HFEW.out.2).mono ?_;rintro e w9 ⟨rfl,hb9⟩;have q9:Below W.heap.size W w9:=below_then q8 q8.size hb9))
               go_ret
               refine⟨ret_bool ?_,(below_then hbW hbW.size q9)⟩
               rw [HTO2.out,E5.out,E6.out,E7.out,E8.out,E9.out,E10.out,E11.out,E12.out]
               simp only [Bool.false_and,Bool.true_and,Bool.and_false]
            ·have gs:((t.reads.length:Int)+t.puts.length == 0)=false:=beq_eq_false_iff_ne.2 hsm
             have HSM:=Lib.hid hsm
             clear hsm
             have E10:=Lib.hid (show (decide (t.stage≠0) || (decide (t.pos=0) && decide ((t.reads.length:Int)+t.puts.length=0)))=false by rw [decide_eq_false (fun h=>h F2.out),decide_eq_false HSM.out];simp)
             go_wp2_with (first | (go_at_call 75;with_reducible refine(l2Nums_calls t.regs 3 R cr _ S (Row.drewN (hrr.belowAll hbW) _)).mono ?_;rintro e w' ⟨rfl,rfl⟩;rw [show (numsOk t.regs && ((t.regs.length:Int) == 3))=regsOk t.regs from rfl,E6.out]) | (go_at_call 75;with_reducible refine(l2Nums_calls t.old 3 O co _ S (Row.drewN (hro.belowAll hbW) _)).mono ?_;rintro e w' ⟨rfl,rfl⟩;rw [show (numsOk t.old && ((t.old.length:Int) == 3))=regsOk t.old from rfl,E7.out]) | (go_at_call 109;with_reducible refine(l12List_calls t.reads D cd _ _ S (Row.drewN (hrd.belowAll hbW) _) (by omega) (by omega)).mono ?_;rintro e w5 ⟨rfl,hb5⟩;rw [E8.out];have q5:Below W.heap.size W w5:=below_then (below_drewN' (Below.refl _ W) _) (Nat.le_refl _) hb5;obtain⟨zt0,zt1,zt2,zt3,zt4,zt5,zt6,zt7,zt8,zt9,zt10,zt11,zt12,zs0,zs1,zs2,zs3,zp0,zp1⟩:=HZ.out _ q5) | (go_at_call 109;with_reducible refine(l12List_calls t.puts U cu _ _ S (hru.belowAll (below_then hbW hbW.size q5)) (by omega) (by omega)).mono ?_;rintro e w6 ⟨rfl,hb6⟩;rw [E9.out];have q6:Below W.heap.size W w6:=below_then q5 q5.size hb6;obtain⟨zt0,zt1,zt2,zt3,zt4,zt5,zt6,zt7,zt8,zt9,zt10,zt11,zt12,zs0,zs1,zs2,zs3,zp0,zp1⟩:=HZ.out _ q6))
             go_ret
             refine⟨ret_bool ?_,(below_then hbW hbW.size q6)⟩
             rw [HTO2.out,E5.out,E6.out,E7.out,E8.out,E9.out,E10.out]
             simp only [Bool.false_and,Bool.true_and,Bool.and_false]
           ·have gp:(t.pos == 0)=false:=by simp [hp0]
            have HP:=Lib.hid hp0
            clear hp0
            have E10:=Lib.hid (show (decide (t.stage≠0) || (decide (t.pos=0) && decide ((t.reads.length:Int)+t.puts.length=0)))=false by rw [decide_eq_false (fun h=>h F2.out),decide_eq_false HP.out];simp)
            go_wp2_with (first | (go_at_call 75;with_reducible refine(l2Nums_calls t.regs 3 R cr _ S (Row.drewN (hrr.belowAll hbW) _)).mono ?_;rintro e w' ⟨rfl,rfl⟩;rw [show (numsOk t.regs && ((t.regs.length:Int) == 3))=regsOk t.regs from rfl,E6.out]) | (go_at_call 75;with_reducible refine(l2Nums_calls t.old 3 O co _ S (Row.drewN (hro.belowAll hbW) _)).mono ?_;rintro e w' ⟨rfl,rfl⟩;rw [show (numsOk t.old && ((t.old.length:Int) == 3))=regsOk t.old from rfl,E7.out]) | (go_at_call 109;with_reducible refine(l12List_calls t.reads D cd _ _ S (Row.drewN (hrd.belowAll hbW) _) (by omega) (by omega)).mono ?_;rintro e w5 ⟨rfl,hb5⟩;rw [E8.out];have q5:Below W.heap.size W w5:=below_then (below_drewN' (Below.refl _ W) _) (Nat.le_refl _) hb5;obtain⟨zt0,zt1,zt2,zt3,zt4,zt5,zt6,zt7,zt8,zt9,zt10,zt11,zt12,zs0,zs1,zs2,zs3,zp0,zp1⟩:=HZ.out _ q5) | (go_at_call 109;with_reducible refine(l12List_calls t.puts U cu _ _ S (hru.belowAll (below_then hbW hbW.size q5)) (by omega) (by omega)).mono ?_;rintro e w6 ⟨rfl,hb6⟩;rw [E9.out];have q6:Below W.heap.size W w6:=below_then q5 q5.size hb6;obtain⟨zt0,zt1,zt2,zt3,zt4,zt5,zt6,zt7,zt8,zt9,zt10,zt11,zt12,zs0,zs1,zs2,zs3,zp0,zp1⟩:=HZ.out _ q6))
            go_ret
            refine⟨ret_bool ?_,(below_then hbW hbW.size q6)⟩
            rw [HTO2.out,E5.out,E6.out,E7.out,E8.out,E9.out,E10.out]
            simp only [Bool.false_and,Bool.true_and,Bool.and_false]
      ·have g1:(t.way != 0)=true:=by simp [f1]
       have g2:(t.stage != 0)=true:=by simp [f2]
       have E5:=Lib.hid (show (decide (t.way=0) || decide (t.stage=0))=false by simp [f1,f2])
       have F2:=Lib.hid f2
       clear f1 f2
       go_wp2
       go_ret
       refine⟨ret_bool ?_,(below_drewN' hbW _)⟩
       rw [HTO2.out,E5.out]
       simp only [Bool.false_and,Bool.true_and,Bool.and_false]
end Go.Proofs.YtjacjafmimgfcaaGreat
