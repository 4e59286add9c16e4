/- The reference's look at a system: who begins whom; how a task stands.; The reference's look at a system: how a task stands.; The program's look at a system: a task, by itself; its act; who begins whom. -/
import Derived.Deep.DrawnRows
import Derived.Test.YtjacjafmimgfcaaGreatWai
import Derived.Test.YtjacjafmimgfcaaGreatWam
import Derived.Test.YtjacjafmimgfcaaGreatWas
set_option maxHeartbeats 4000000
set_option maxRecDepth 100000
set_option linter.unusedVariables false
set_option linter.unusedSimpArgs false
namespace Go.Proofs.YtjacjafmimgfcaaGreat
open Go.RowKit
theorem isLive_or (t:Task):isLive t=(t.way == 0 || t.way == 1):=rfl
theorem l12Up_calls (s:Sys)(i:Nat)(A B C:Option Addr)(ca cb cc:Nat)(w:World)(S:Nat→Prop)(hT:Row kTask w S B s.tasks)(hi:i<s.tasks.length) :
  Calls Tryz.prog 111 #[.agg #[.slice A s.cells.length ca,.slice B s.tasks.length cb,.int .i64 s.clock,.slice C s.log.length cc],.int .i64 (i:Nat)] w fun e w'=>e=.returned (.bool (upOk s i))∧Below w.heap.size w w':=by
 have hb:=fun o o'=>alB2 w o o'
 have hm:=hT.1
 obtain⟨ad,R,O,D,U,cr,co,cd,cu,rfl,hl,hrows,hat⟩:=at_task hT hi
 have hl2:(ad.add (i*13)).block<w.heap.size:=by rw [block_add];exact hl
 have q:=fun o=>hat.below (alB w o) hl2
 have k0:=fun o=>(q o).c0;have k1:=fun o=>(q o).c1;have k2:=fun o=>(q o).c2;have k3:=fun o=>(q o).c3;have k4:=fun o=>(q o).c4;have k5:=fun o=>(q o).c5;have k6:=fun o=>(q o).c6;have k7:=fun o=>(q o).c7;have k8:=fun o=>(q o).c8;have k9:=fun o=>(q o).c9;have k10:=fun o=>(q o).c10;have k11:=fun o=>(q o).c11;have k12:=fun o=>(q o).c12
 have x1:(i:Int)<s.tasks.length:=by omega
 have x3:(0:Int)≤i:=by omega
 have ht:s.t i=s.tasks[i]:=sys_t hi
 have hup:upOk s i=if i=0 then decide (s.tasks[i].up=-1) else (inR s.tasks[i].up 0 ((i:Int)-1) && (!isLive s.tasks[i] || decide ((s.t s.tasks[i].up.toNat).way=1))):=by unfold upOk;rw [ht]
 have HUP:=Lib.hid hup
 clear hup ht
 rcases Nat.eq_zero_or_pos i with h0 | h0
 ·have b0:((i:Int) == 0)=true:=by simp [h0]
  have HH:=Lib.hid h0
  clear h0
  go_enter Tryz.func111,Tryz.ntmps111
  go_wp2
  go_ret
  exact⟨ret_bool (by rw [HUP.out,if_pos HH.out];rfl),hb _ _⟩
 ·have b0:((i:Int) == 0)=false:=by simp;omega
  have hw:IntKind.i64.wrap ((i:Int)-1)=(i:Int)-1:=IntWalk.i64_in _ (by omega)
  cases e1:inR s.tasks[i].up 0 ((i:Int)-1) with
  | false =>
   have E1:=Lib.hid e1
   clear e1
   go_enter Tryz.func111,Tryz.ntmps111
   go_wp2_with (go_at_call 67;refine(l6In_calls _ _ _ _).mono ?_;rintro e w' ⟨rfl,rfl⟩;rw [E1.out])
   go_ret
   exact⟨ret_bool (by rw [HUP.out,if_neg (by omega),E1.out];rfl),hb _ _⟩
  | true =>
   have hr:0≤s.tasks[i].up∧s.tasks[i].up≤(i:Int)-1:=by simpa [inR] using e1
   have E1:=Lib.hid e1
   clear e1
   obtain⟨u,hu⟩:∃ u:Nat,s.tasks[i].up=(u:Int):=⟨s.tasks[i].up.toNat,by omega⟩
   have hul:u<s.tasks.length:=by omega
   obtain⟨ad',R',O',D',U',cr',co',cd',cu',he,hl',hrows',hat'⟩:=at_task hT hul
   injection he with he
   subst he
   have hl3:(ad.add (u*13)).block<w.heap.size:=by rw [block_add];exact hl
   have j4:=fun o o'=>(hat'.below (alB2 w o o') hl3).c4
   simp only [hu] at k2
   have E1':Hid (inR (u:Int) 0 ((i:Int)-1)=true):=Lib.hid (by rw [← hu];exact E1.out)
   have y1:(u:Int)<s.tasks.length:=by omega
   have y3:(0:Int)≤u:=by omega
   have HUP2:Hid (upOk s i=(!isLive s.tasks[i] || decide (s.tasks[u].way=1))):=Lib.hid (by rw [HUP.out,if_neg (by omega),E1.out,hu,Int.toNat_natCast,sys_t hul];rfl)
   clear hu hr hat' HUP E1
   by_cases f0:s.tasks[i].way=0
   ·have g0:(s.tasks[i].way == 0)=true:=by simp [f0]
    have HL:Hid (isLive s.tasks[i]=true):=Lib.hid (by rw [isLive_or,g0];rfl)
    clear f0
    go_enter Tryz.func111,Tryz.ntmps111
    go_wp2_with (go_at_call 67;refine(l6In_calls _ _ _ _).mono ?_;rintro e w' ⟨rfl,rfl⟩;rw [E1'.out])
    go_ret
    exact⟨ret_bool (by rw [HUP2.out,HL.out];rfl),hb _ _⟩
   ·have g0:(s.tasks[i].way == 0)=false:=by simp [f0]
    by_cases f1:s.tasks[i].way=1
    ·have g1:(s.tasks[i].way == 1)=true:=by simp [f1]
     have HL:Hid (isLive s.tasks[i]=true):=Lib.hid (by rw [isLive_or,g0,g1];rfl)
     clear f0 f1
     go_enter Tryz.func111,Tryz.ntmps111
     go_wp2_with (go_at_call 67;refine(l6In_calls _ _ _ _).mono ?_;rintro e w' ⟨rfl,rfl⟩;rw [E1'.out])
     go_ret
     exact⟨ret_bool (by rw [HUP2.out,HL.out];rfl),hb _ _⟩
    ·have g1:(s.tasks[i].way == 1)=false:=by simp [f1]
     have HL:Hid (isLive s.tasks[i]=false):=Lib.hid (by rw [isLive_or,g0,g1];rfl)
     clear f0 f1
     go_enter Tryz.func111,Tryz.ntmps111
     go_wp2_with (go_at_call 67;refine(l6In_calls _ _ _ _).mono ?_;rintro e w' ⟨rfl,rfl⟩;rw [E1'.out])
     go_ret
     exact⟨ret_bool (by rw [HUP2.out,HL.out];rfl),hb _ _⟩
end Go.Proofs.YtjacjafmimgfcaaGreat
namespace Go.Proofs.YtjacjafmimgfcaaGreat
open Go.RowKit
theorem kidsOf_bound (s:Sys)(a b:Int):0≤kidsOf s a b∧kidsOf s a b≤s.tasks.length:=by
 unfold kidsOf
 have:=List.length_filter_le (fun t:Task=>decide (t.up=a) && decide (t.way=b)) s.tasks
 omega
theorem l12Act_calls (p:Prog)(s:Sys)(i:Nat)(P Q A B C:Option Addr)(cp cq ca cb cc:Nat)(w:World)(S:Nat→Prop)(hQ:Row (Kd.slice kAct) w S Q p.bodies)(hT:Row kTask w S B s.tasks)(hi:i<s.tasks.length)(hn:s.tasks.length≤1000)
  (hbody:0≤(s.t i).body∧(s.t i).body<p.bodies.length) (hpc:0≤(s.t i).pc∧(s.t i).pc≤(p.acts (s.t i).body).length) (hd:(s.t i).reads.length≤1000) (hu:(s.t i).puts.length≤1000) :
  Calls Tryz.prog 112 #[.agg #[.slice P p.cells.length cp,.slice Q p.bodies.length cq],.agg #[.slice A s.cells.length ca,.slice B s.tasks.length cb,.int .i64 s.clock,.slice C s.log.length cc],.int .i64 (i:Nat)] w fun e w'=>e=.returned (.bool (actStand p s i))∧Below w.heap.size w w':=by
 have hm:=hT.1
 have hmq:=hQ.1
 have hb:=fun o1 o2 o3 o4=>alB4 w o1 o2 o3 o4
 obtain⟨t,ht⟩:∃ t,t=s.t i:=⟨_,rfl⟩
 rw [← ht] at hbody hpc hd hu
 have hst:actStand p s i=if t.way=0 then decide (t.stage=0) || (p.there t && decide ((p.act t).kind=1) && posOk t (p.act t).deeds.length) else if t.way=1 then p.there t && decide ((p.act t).kind=2) && decide (((p.act t).kids.length:Int)≤kidsOf s i 0+kidsOf s i 1+kidsOf s i 2+kidsOf s i 3) else if t.way=2 then decide (t.pc=(p.acts t.body).length) else true:=by rw [ht];rfl
 have HST:=Lib.hid hst
 obtain⟨b,hbn⟩:∃ b:Nat,t.body=(b:Int):=⟨t.body.toNat,by omega⟩
 obtain⟨c,hcn⟩:∃ c:Nat,t.pc=(c:Int):=⟨t.pc.toNat,by omega⟩
 have hbl:b<p.bodies.length:=by omega
 have hacts:p.acts t.body=p.bodies[b]:=by unfold Prog.acts;rw [hbn,Int.toNat_natCast];exact getD_at _ _ _ hbl
 have hcl:c≤p.bodies[b].length:=by rw [hacts] at hpc;omega
 obtain⟨ad,R,O,D,U,cr,co,cd,cu,rfl,hl,hrows,hat⟩:=at_task hT hi
 rw [← sys_t hi,← ht] at hat
 have hl2:(ad.add (i*13)).block<w.heap.size:=by rw [block_add];exact hl
 have q:=fun o o'=>hat.below (alB2 w o o') hl2
 have k0:=fun o o'=>(q o o').c0
 have k1:=fun o o'=>(q o o').c1
 have k2:=fun o o'=>(q o o').c2
 have k3:=fun o o'=>(q o o').c3
 have k4:=fun o o'=>(q o o').c4
 have k5:=fun o o'=>(q o o').c5
 have k6:=fun o o'=>(q o o').c6
 have k7:=fun o o'=>(q o o').c7
 have k8:=fun o o'=>(q o o').c8
 have k9:=fun o o'=>(q o o').c9
 have k10:=fun o o'=>(q o o').c10
 have k11:=fun o o'=>(q o o').c11
 have k12:=fun o o'=>(q o o').c12
 rw [hbn] at k0
 simp only [hcn] at k1
 obtain⟨ae,E,ce,rfl,hle,hce,hcel,hE⟩:=at_slice hQ hbl
 have e0:=fun o1 o2 o3=>((alB3 w o1 o2 o3).cell (p:=ae.add b) (by rw [block_add];exact hle)).trans hce
 have hme:=hE.1
 have x1:(i:Int)<s.tasks.length:=by omega
 have x3:(0:Int)≤i:=by omega
 have y1:(b:Int)<p.bodies.length:=by omega
 have y3:(0:Int)≤b:=by omega
 have z3:(0:Int)≤c:=by omega
 have hT4:=fun o1 o2 o3 o4=>hT.belowAll (alB4 w o1 o2 o3 o4)
 have hth:p.there t=decide (c<p.bodies[b].length):=by unfold Prog.there;rw [hacts,hcn];simp
 have hact:∀ h:c<p.bodies[b].length,p.act t=p.bodies[b][c]:=fun h=>by unfold Prog.act;rw [hacts,hcn,Int.toNat_natCast];exact getD_at _ _ _ h
 have HX:=Lib.hid (And.intro hth hact)
 have hlen:p.acts t.body=p.bodies[b]:=hacts
 have HAC:=Lib.hid hlen
 have HPC:=Lib.hid hcn
 have HBD:=Lib.hid hbn
 have HT:=Lib.hid ht
 clear hst hacts hth hact hlen hcn hbn ht hat q hrows hpc hbody hT hQ hce
 by_cases w0:t.way=0
 ·have g0:(t.way == 0)=true:=by simp [w0]
  have HW:=Lib.hid w0
  clear w0
  by_cases f0:t.stage=0
  ·have h0:(t.stage == 0)=true:=by simp [f0]
   have HF:=Lib.hid f0
   clear f0
   go_enter Tryz.func112,Tryz.ntmps112
   go_wp2
   go_quiet (fail)
   go_wp2
   go_ret
   refine⟨ret_bool ?_,by repeat' (first | exact hb _ _ _ _ | apply below_drewN1)⟩
   rw [HST.out,if_pos HW.out,HF.out]
   rfl
  ·have h0:(t.stage == 0)=false:=by simp [f0]
   have HF:=Lib.hid f0
   clear f0
   by_cases hc:c<p.bodies[b].length
   ·obtain⟨af,G,cg,K,ck,rfl,hlf,m0,m1,m2,m3,hcg,hck,hG,hK,hi1,hi2⟩:=at_act hE hc
    have hlf2:(af.add (c*4)).block<w.heap.size:=by rw [block_add];exact hlf
    have a0:=fun o1 o2 o3 o4=>((alB4 w o1 o2 o3 o4).cell (p:=af.add (c*4)) hlf2).trans m0
    have a1:=fun o1 o2 o3 o4=>((alB4 w o1 o2 o3 o4).cell (p:=⟨(af.add (c*4)).block,(af.add (c*4)).off+1,none⟩) hlf2).trans m1
    have hc1:(c:Int)<p.bodies[b].length:=by omega
    have hmg:=hG.1
    have HTH:Hid (p.there t=true∧p.act t=p.bodies[b][c]):=Lib.hid ⟨by rw [HX.out.1];simp [hc],HX.out.2 hc⟩
    by_cases hk:p.bodies[b][c].kind=1
    ·have b2:(p.bodies[b][c].kind == 1)=true:=by simp [hk]
     have HK:=Lib.hid hk
     clear hk m0 m1 m2 m3
     go_enter Tryz.func112,Tryz.ntmps112
     have HW0:=HW
     go_wp2
     obtain⟨W4,HW⟩:∃ W4,W4=(((w.alloc (Obj.cells #[.slice P p.cells.length cp,.slice (some ae) p.bodies.length cq] 39)).alloc (Obj.cells #[.slice A s.cells.length ca,.slice (some ad) s.tasks.length cb,.int .i64 s.clock,.slice C s.log.length cc] 45)).alloc (Obj.cells #[.int .i64 (b:Nat),.int .i64 (c:Nat),.int .i64 t.up,.slice R t.regs.length cr,.int .i64 t.way,.int .i64 t.stage,.int .i64 t.pos,.int .i64 t.since,.slice O t.old.length co,.slice D t.reads.length cd,.slice U t.puts.length cu,.int .i64 t.whn,.int .i64 t.frm] 118)).alloc (Obj.cells #[.slice P p.cells.length cp,.slice (some ae) p.bodies.length cq,.slice A s.cells.length ca,.slice (some ad) s.tasks.length cb,.int .i64 s.clock,.slice C s.log.length cc] 190):=⟨_,rfl⟩
     have hb4:Below w.heap.size w W4:=by rw [HW];exact hb _ _ _ _
     have hz4:W4.heap.size=w.heap.size+4:=by rw [HW];simp
     have t0:W4.cell? ⟨w.heap.size+1+1,0,none⟩=some (.int .i64 (b:Nat)):=by rw [HW];simp [go_sem]
     have t1:W4.cell? ⟨w.heap.size+1+1,1,none⟩=some (.int .i64 (c:Nat)):=by rw [HW];simp [go_sem]
     have t2:W4.cell? ⟨w.heap.size+1+1,2,none⟩=some (.int .i64 t.up):=by rw [HW];simp [go_sem]
     have t3:W4.cell? ⟨w.heap.size+1+1,3,none⟩=some (.slice R t.regs.length cr):=by rw [HW];simp [go_sem]
     have t4:W4.cell? ⟨w.heap.size+1+1,4,none⟩=some (.int .i64 t.way):=by rw [HW];simp [go_sem]
     have t5:W4.cell? ⟨w.heap.size+1+1,5,none⟩=some (.int .i64 t.stage):=by rw [HW];simp [go_sem]
     have t6:W4.cell? ⟨w.heap.size+1+1,6,none⟩=some (.int .i64 t.pos):=by rw [HW];simp [go_sem]
     have t7:W4.cell? ⟨w.heap.size+1+1,7,none⟩=some (.int .i64 t.since):=by rw [HW];simp [go_sem]
     have t8:W4.cell? ⟨w.heap.size+1+1,8,none⟩=some (.slice O t.old.length co):=by rw [HW];simp [go_sem]
     have t9:W4.cell? ⟨w.heap.size+1+1,9,none⟩=some (.slice D t.reads.length cd):=by rw [HW];simp [go_sem]
     have t10:W4.cell? ⟨w.heap.size+1+1,10,none⟩=some (.slice U t.puts.length cu):=by rw [HW];simp [go_sem]
     have t11:W4.cell? ⟨w.heap.size+1+1,11,none⟩=some (.int .i64 t.whn):=by rw [HW];simp [go_sem]
     have t12:W4.cell? ⟨w.heap.size+1+1,12,none⟩=some (.int .i64 t.frm):=by rw [HW];simp [go_sem]
     have u0:W4.cell? (af.add (c*4))=some (.int .i64 p.bodies[b][c].kind):=by rw [HW];exact a0 _ _ _ _
     have u1:W4.cell? ⟨(af.add (c*4)).block,(af.add (c*4)).off+1,none⟩=some (.slice G p.bodies[b][c].deeds.length cg):=by rw [HW];exact a1 _ _ _ _
     rw [← HW]
     have HZ:=Lib.hid hz4
     have hAt:=fun w'=>l12At_calls t R O D U cr co cd cu (p.bodies[b][c].deeds.length:Int) w' hd hu
     simp only [HBD.out,HPC.out] at hAt
     have HAt:=Lib.hid hAt
     have hbw:Below W4.heap.size W4 W4.drew:=(Below.refl _ _).drew
     have hlt4:w.heap.size+1+1<W4.heap.size:=by omega
     have hlf4:(af.add (c*4)).block<W4.heap.size:=by omega
     clear HW hz4 hAt k0 k1 k2 k3 k4 k5 k6 k7 k8 k9 k10 k11 k12 e0 a0 a1 hT4 hb
     go_region_held3 (fun w'=>w'.cell? ⟨w.heap.size+1+1,0,none⟩=some (.int .i64 (b:Nat))∧w'.cell? ⟨w.heap.size+1+1,1,none⟩=some (.int .i64 (c:Nat))∧w'.cell? ⟨w.heap.size+1+1,2,none⟩=some (.int .i64 t.up)∧w'.cell? ⟨w.heap.size+1+1,3,none⟩=some (.slice R t.regs.length cr)∧w'.cell? ⟨w.heap.size+1+1,4,none⟩=some (.int .i64 t.way)∧w'.cell? ⟨w.heap.size+1+1,5,none⟩=some (.int .i64 t.stage)∧w'.cell? ⟨w.heap.size+1+1,6,none⟩=some (.int .i64 t.pos)∧w'.cell? ⟨w.heap.size+1+1,7,none⟩=some (.int .i64 t.since)∧w'.cell? ⟨w.heap.size+1+1,8,none⟩=some (.slice O t.old.length co)∧w'.cell? ⟨w.heap.size+1+1,9,none⟩=some (.slice D t.reads.length cd)∧w'.cell? ⟨w.heap.size+1+1,10,none⟩=some (.slice U t.puts.length cu)∧w'.cell? ⟨w.heap.size+1+1,11,none⟩=some (.int .i64 t.whn)∧w'.cell? ⟨w.heap.size+1+1,12,none⟩=some (.int .i64 t.frm)∧w'.cell? (af.add (c*4))=some (.int .i64 p.bodies[b][c].kind)∧w'.cell? ⟨(af.add (c*4)).block,(af.add (c*4)).off+1,none⟩=some (.slice G p.bodies[b][c].deeds.length cg)∧Below W4.heap.size W4 w') (go_keep)
      (first | (go_at_call 146;refine(HAt.out _).mono ?_;rintro e w6 ⟨rfl,hb6⟩;have q0:=below_then ‹Below W4.heap.size W4 _› (Below.size ‹Below W4.heap.size W4 _›) hb6;have r0:=(q0.cell (p:=⟨w.heap.size+1+1,0,none⟩) hlt4).trans t0;have r1:=(q0.cell (p:=⟨w.heap.size+1+1,1,none⟩) hlt4).trans t1;have r2:=(q0.cell (p:=⟨w.heap.size+1+1,2,none⟩) hlt4).trans t2;have r3:=(q0.cell (p:=⟨w.heap.size+1+1,3,none⟩) hlt4).trans t3;have r4:=(q0.cell (p:=⟨w.heap.size+1+1,4,none⟩) hlt4).trans t4;have r5:=(q0.cell (p:=⟨w.heap.size+1+1,5,none⟩) hlt4).trans t5;have r6:=(q0.cell (p:=⟨w.heap.size+1+1,6,none⟩) hlt4).trans t6;have r7:=(q0.cell (p:=⟨w.heap.size+1+1,7,none⟩) hlt4).trans t7;have r8:=(q0.cell (p:=⟨w.heap.size+1+1,8,none⟩) hlt4).trans t8;have r9:=(q0.cell (p:=⟨w.heap.size+1+1,9,none⟩) hlt4).trans t9;have r10:=(q0.cell (p:=⟨w.heap.size+1+1,10,none⟩) hlt4).trans t10;have r11:=(q0.cell (p:=⟨w.heap.size+1+1,11,none⟩) hlt4).trans t11;have r12:=(q0.cell (p:=⟨w.heap.size+1+1,12,none⟩) hlt4).trans t12;have r13:=(q0.cell (p:=af.add (c*4)) hlf4).trans u0;have r14:=(q0.cell (p:=⟨(af.add (c*4)).block,(af.add (c*4)).off+1,none⟩) hlf4).trans u1) | fail)
     go_wp2
     go_ret
     refine⟨ret_bool ?_,below_then hb4 hb4.size q0⟩
     rw [HST.out,if_pos HW0.out,HTH.out.1,HTH.out.2,HK.out]
     simp [HF.out]
    ·have b2:(p.bodies[b][c].kind == 1)=false:=by simp [hk]
     have HK:=Lib.hid hk
     clear hk m0 m1 m2 m3
     go_enter Tryz.func112,Tryz.ntmps112
     go_wp2
     go_quiet (fail)
     go_wp2
     go_ret
     refine⟨ret_bool ?_,by repeat' (first | exact hb _ _ _ _ | apply below_drewN1)⟩
     rw [HST.out,if_pos HW.out,HTH.out.1,HTH.out.2]
     simp [HF.out,HK.out]
   ·have hc1:¬ ((c:Int)<p.bodies[b].length):=by omega
    have HTH:Hid (p.there t=false):=Lib.hid (by rw [HX.out.1];simp;omega)
    go_enter Tryz.func112,Tryz.ntmps112
    go_wp2
    go_quiet (fail)
    go_wp2
    go_ret
    refine⟨ret_bool ?_,by repeat' (first | exact hb _ _ _ _ | apply below_drewN1)⟩
    rw [HST.out,if_pos HW.out,HTH.out]
    simp [HF.out]
 ·by_cases w1:t.way=1
  ·have g0:(t.way == 0)=false:=by simp [w0]
   have g1:(t.way == 1)=true:=by simp [w1]
   have v0:=kidsOf_bound s i 0
   have v1:=kidsOf_bound s i 1
   have v2:=kidsOf_bound s i 2
   have v3:=kidsOf_bound s i 3
   have s1:IntKind.i64.wrap (kidsOf s i 0+kidsOf s i 1)=kidsOf s i 0+kidsOf s i 1:=IntWalk.i64_in _ (by omega)
   have s2:IntKind.i64.wrap (kidsOf s i 0+kidsOf s i 1+kidsOf s i 2)=kidsOf s i 0+kidsOf s i 1+kidsOf s i 2:=IntWalk.i64_in _ (by omega)
   have s3:IntKind.i64.wrap (kidsOf s i 0+kidsOf s i 1+kidsOf s i 2+kidsOf s i 3)=kidsOf s i 0+kidsOf s i 1+kidsOf s i 2+kidsOf s i 3:=IntWalk.i64_in _ (by omega)
   have HW:=Lib.hid (And.intro w0 w1)
   clear w0 w1 v0 v1 v2 v3
   by_cases hc:c<p.bodies[b].length
   ·obtain⟨af,G,cg,K,ck,rfl,hlf,m0,m1,m2,m3,hcg,hck,hG,hK,hi1,hi2⟩:=at_act hE hc
    have hlf2:(af.add (c*4)).block<w.heap.size:=by rw [block_add];exact hlf
    have a0:=fun o1 o2 o3 o4=>((alB4 w o1 o2 o3 o4).cell (p:=af.add (c*4)) hlf2).trans m0
    have a2:=fun o1 o2 o3 o4=>((alB4 w o1 o2 o3 o4).cell (p:=⟨(af.add (c*4)).block,(af.add (c*4)).off+2,none⟩) hlf2).trans m2
    have hc1:(c:Int)<p.bodies[b].length:=by omega
    have HTH:Hid (p.there t=true∧p.act t=p.bodies[b][c]):=Lib.hid ⟨by rw [HX.out.1];simp [hc],HX.out.2 hc⟩
    by_cases hk:p.bodies[b][c].kind=2
    ·have b2:(p.bodies[b][c].kind == 2)=true:=by simp [hk]
     have HK:=Lib.hid hk
     clear hk m0 m1 m2 m3
     go_enter Tryz.func112,Tryz.ntmps112
     go_wp2_with (go_at_call 147;refine(kids_calls s _ (some ad) cb (i:Int) _ _ S (hT4 _ _ _ _) (by simp [go_sem])).mono ?_;rintro e w' ⟨rfl,rfl⟩)
     go_ret
     refine⟨ret_bool ?_,hb _ _ _ _⟩
     rw [HST.out,if_neg HW.out.1,if_pos HW.out.2,HTH.out.1,HTH.out.2,HK.out]
     simp
    ·have b2:(p.bodies[b][c].kind == 2)=false:=by simp [hk]
     have HK:=Lib.hid hk
     clear hk m0 m1 m2 m3
     go_enter Tryz.func112,Tryz.ntmps112
     go_wp2_with (go_at_call 147;refine(kids_calls s _ (some ad) cb (i:Int) _ _ S (hT4 _ _ _ _) (by simp [go_sem])).mono ?_;rintro e w' ⟨rfl,rfl⟩)
     go_ret
     refine⟨ret_bool ?_,hb _ _ _ _⟩
     rw [HST.out,if_neg HW.out.1,if_pos HW.out.2,HTH.out.1,HTH.out.2]
     simp [HK.out]
   ·have hc1:¬ ((c:Int)<p.bodies[b].length):=by omega
    have HTH:Hid (p.there t=false):=Lib.hid (by rw [HX.out.1];simp;omega)
    go_enter Tryz.func112,Tryz.ntmps112
    go_wp2_with (go_at_call 147;refine(kids_calls s _ (some ad) cb (i:Int) _ _ S (hT4 _ _ _ _) (by simp [go_sem])).mono ?_;rintro e w' ⟨rfl,rfl⟩)
    go_ret
    refine⟨ret_bool ?_,hb _ _ _ _⟩
    rw [HST.out,if_neg HW.out.1,if_pos HW.out.2,HTH.out]
    rfl
  ·by_cases w2:t.way=2
   ·have g0:(t.way == 0)=false:=by simp [w0]
    have g1:(t.way == 1)=false:=by simp [w1]
    have g2:(t.way == 2)=true:=by simp [w2]
    have HW:=Lib.hid (And.intro w0 (And.intro w1 w2))
    clear w0 w1 w2
    go_enter Tryz.func112,Tryz.ntmps112
    go_wp2
    go_ret
    refine⟨ret_bool ?_,hb _ _ _ _⟩
    rw [HST.out,if_neg HW.out.1,if_neg HW.out.2.1,if_pos HW.out.2.2,HAC.out,HPC.out]
    rfl
   ·have g0:(t.way == 0)=false:=by simp [w0]
    have g1:(t.way == 1)=false:=by simp [w1]
    have g2:(t.way == 2)=false:=by simp [w2]
    have HW:=Lib.hid (And.intro w0 (And.intro w1 w2))
    clear w0 w1 w2
    go_enter Tryz.func112,Tryz.ntmps112
    go_wp2
    go_ret
    refine⟨ret_bool ?_,hb _ _ _ _⟩
    rw [HST.out,if_neg HW.out.1,if_neg HW.out.2.1,if_neg HW.out.2.2]
end Go.Proofs.YtjacjafmimgfcaaGreat
namespace Go.Proofs.YtjacjafmimgfcaaGreat
open Go.RowKit
theorem formOk_parts (p:Prog)(s:Sys)(t:Task):formOkI p s t=(inR t.body 0 ((p.bodies.length:Int)-1) && (inR t.pc 0 (p.acts t.body).length && (inR t.way 0 4 && (regsOk t.regs && (regsOk t.old && (inR t.since 0 s.clock && (inR t.frm 0 s.log.length && (putsOk t.reads s.cells.length && putsOk t.puts s.cells.length)))))))):=by
 unfold formOkI
 simp only [Bool.and_assoc]
theorem inR_lt {n a b:Int}(h:n<a):inR n a b=false:=by simp [inR];omega
theorem inR_gt {n a b:Int}(h:b<n):inR n a b=false:=by simp [inR];omega
theorem inR_in {n a b:Int}(h:a≤n)(k:n≤b):inR n a b=true:=by simp [inR];omega
theorem formOk_calls (p:Prog)(s:Sys)(t:Task)(P Q A B C R O D U:Option Addr)(cp cq ca cb cc cr co cd cu:Nat)(w:World)(S:Nat→Prop)(hQ:Row (Kd.slice kAct) w S Q p.bodies)(hrows:TaskRows w S t R O D U cr co cd cu)(hnc:s.cells.length≤9223372036854775807)(hlg:s.log.length≤9223372036854775807) :
  Calls Tryz.prog 83 #[.agg #[.slice P p.cells.length cp,.slice Q p.bodies.length cq],.agg #[.slice A s.cells.length ca,.slice B s.tasks.length cb,.int .i64 s.clock,.slice C s.log.length cc],.agg #[.int .i64 t.body,.int .i64 t.pc,.int .i64 t.up,.slice R t.regs.length cr,.int .i64 t.way,.int .i64 t.stage,.int .i64 t.pos,.int .i64 t.since,.slice O t.old.length co,.slice D t.reads.length cd,.slice U t.puts.length cu,.int .i64 t.whn,.int .i64 t.frm]] w fun e w'=>e=.returned (.bool (formOkI p s t))∧Below w.heap.size w w':=by
 have hmq:=hQ.1
 obtain⟨hlr,hlo,hld,hlu,hrr,hro,hrd,hru⟩:=hrows
 have HP:=Lib.hid (formOk_parts p s t)
 obtain⟨W,HW⟩:∃ W,W=((w.alloc (Obj.cells #[.slice P p.cells.length cp,.slice Q p.bodies.length cq] 39)).alloc (Obj.cells #[.slice A s.cells.length ca,.slice B s.tasks.length cb,.int .i64 s.clock,.slice C s.log.length cc] 45)).alloc (Obj.cells #[.int .i64 t.body,.int .i64 t.pc,.int .i64 t.up,.slice R t.regs.length cr,.int .i64 t.way,.int .i64 t.stage,.int .i64 t.pos,.int .i64 t.since,.slice O t.old.length co,.slice D t.reads.length cd,.slice U t.puts.length cu,.int .i64 t.whn,.int .i64 t.frm] 118):=⟨_,rfl⟩
 have hbW:Below w.heap.size w W:=by rw [HW];exact alB3 w _ _ _
 have hzW:W.heap.size=w.heap.size+3:=by rw [HW];simp
 have bt0:W.cell? ⟨w.heap.size+1+1,0,none⟩=some (.int .i64 t.body):=by rw [HW];simp [go_sem]
 have bt1:W.cell? ⟨w.heap.size+1+1,1,none⟩=some (.int .i64 t.pc):=by rw [HW];simp [go_sem]
 have bt2:W.cell? ⟨w.heap.size+1+1,2,none⟩=some (.int .i64 t.up):=by rw [HW];simp [go_sem]
 have bt3:W.cell? ⟨w.heap.size+1+1,3,none⟩=some (.slice R t.regs.length cr):=by rw [HW];simp [go_sem]
 have bt4:W.cell? ⟨w.heap.size+1+1,4,none⟩=some (.int .i64 t.way):=by rw [HW];simp [go_sem]
 have bt5:W.cell? ⟨w.heap.size+1+1,5,none⟩=some (.int .i64 t.stage):=by rw [HW];simp [go_sem]
 have bt6:W.cell? ⟨w.heap.size+1+1,6,none⟩=some (.int .i64 t.pos):=by rw [HW];simp [go_sem]
 have bt7:W.cell? ⟨w.heap.size+1+1,7,none⟩=some (.int .i64 t.since):=by rw [HW];simp [go_sem]
 have bt8:W.cell? ⟨w.heap.size+1+1,8,none⟩=some (.slice O t.old.length co):=by rw [HW];simp [go_sem]
 have bt9:W.cell? ⟨w.heap.size+1+1,9,none⟩=some (.slice D t.reads.length cd):=by rw [HW];simp [go_sem]
 have bt10:W.cell? ⟨w.heap.size+1+1,10,none⟩=some (.slice U t.puts.length cu):=by rw [HW];simp [go_sem]
 have bt11:W.cell? ⟨w.heap.size+1+1,11,none⟩=some (.int .i64 t.whn):=by rw [HW];simp [go_sem]
 have bt12:W.cell? ⟨w.heap.size+1+1,12,none⟩=some (.int .i64 t.frm):=by rw [HW];simp [go_sem]
 have bs0:W.cell? ⟨w.heap.size+1,0,none⟩=some (.slice A s.cells.length ca):=by rw [HW];simp [go_sem]
 have bs1:W.cell? ⟨w.heap.size+1,1,none⟩=some (.slice B s.tasks.length cb):=by rw [HW];simp [go_sem]
 have bs2:W.cell? ⟨w.heap.size+1,2,none⟩=some (.int .i64 s.clock):=by rw [HW];simp [go_sem]
 have bs3:W.cell? ⟨w.heap.size+1,3,none⟩=some (.slice C s.log.length cc):=by rw [HW];simp [go_sem]
 have bp0:W.cell? ⟨w.heap.size,0,none⟩=some (.slice P p.cells.length cp):=by rw [HW];simp [go_sem]
 have bp1:W.cell? ⟨w.heap.size,1,none⟩=some (.slice Q p.bodies.length cq):=by rw [HW];simp [go_sem]
 have ht:w.heap.size+1+1<W.heap.size:=by omega
 have hs:w.heap.size+1<W.heap.size:=by omega
 have hp:w.heap.size<W.heap.size:=by omega
 have HWW:=Lib.hid HW
 have HZ:=Lib.hid hzW
 clear HW hzW hlr hlo hld hlu
 have hfin:∀ n,Below w.heap.size w (W.drewN n):=fun n=>below_drewN' hbW n
 cases e1:inR t.body 0 ((p.bodies.length:Int)-1) with
 | false =>
  have hc1:=isPlace_drew _ _ (by omega) _ e1 W
  have E1:=Lib.hid e1
  clear e1
  go_enter Tryz.func83,Tryz.ntmps83
  go_wp2
  rw [← HWW.out]
  go_quiet (first | (go_at_call 89;with_reducible refine Calls.quiet_of_same (hc1 _)))
  go_wp2
  go_ret
  exact⟨ret_bool (by rw [HP.out,E1.out];rfl),hfin _⟩
 | true =>
  have hb1:0≤t.body∧t.body≤(p.bodies.length:Int)-1:=by simpa [inR] using e1
  have hc1:=isPlace_drew _ _ (by omega) _ e1 W
  obtain⟨b,hbn⟩:∃ b:Nat,t.body=(b:Int):=⟨t.body.toNat,by omega⟩
  have hbl:b<p.bodies.length:=by omega
  have hacts:p.acts t.body=p.bodies[b]:=by unfold Prog.acts;rw [hbn,Int.toNat_natCast];exact getD_at _ _ _ hbl
  obtain⟨ae,E,ce,rfl,hle,hce,hcel,hE⟩:=at_slice hQ hbl
  have hme:=hE.1
  have e0:W.cell? (ae.add t.body.toNat)=some (.slice E p.bodies[b].length ce):=by rw [hbn,Int.toNat_natCast];exact(hbW.cell (p:=ae.add b) (by rw [block_add];exact hle)).trans hce
  have y1:t.body<p.bodies.length:=by omega
  have y3:(0:Int)≤t.body:=by omega
  have E1:=Lib.hid e1
  have HAC:=Lib.hid hacts
  clear e1 hb1 hbn hacts hce
  by_cases f2:t.pc<0
  ·have G2:=Lib.hid (show inR t.pc 0 (p.bodies[b].length)=false from inR_lt f2)
   go_enter Tryz.func83,Tryz.ntmps83
   go_wp2
   rw [← HWW.out]
   go_quiet (first | (go_at_call 89;with_reducible refine Calls.quiet_of_same (hc1 _)))
   go_wp2
   go_ret
   refine⟨ret_bool ?_,hfin _⟩
   rw [HP.out,E1.out,HAC.out,G2.out]
   simp only [Bool.false_and,Bool.true_and,Bool.and_false]
  by_cases g2:t.pc > (p.bodies[b].length:Int)
  ·have G2:=Lib.hid (show inR t.pc 0 (p.bodies[b].length)=false from inR_gt g2)
   go_enter Tryz.func83,Tryz.ntmps83
   go_wp2
   rw [← HWW.out]
   go_quiet (first | (go_at_call 89;with_reducible refine Calls.quiet_of_same (hc1 _)))
   go_wp2
   go_ret
   refine⟨ret_bool ?_,hfin _⟩
   rw [HP.out,E1.out,HAC.out,G2.out]
   simp only [Bool.false_and,Bool.true_and,Bool.and_false]
  have G2:=Lib.hid (show inR t.pc 0 (p.bodies[b].length)=true from inR_in (by omega) (by omega))
  by_cases f3:t.way<0
  ·have G3:=Lib.hid (show inR t.way 0 4=false from inR_lt f3)
   go_enter Tryz.func83,Tryz.ntmps83
   go_wp2
   rw [← HWW.out]
   go_quiet (first | (go_at_call 89;with_reducible refine Calls.quiet_of_same (hc1 _)))
   go_wp2
   go_ret
   refine⟨ret_bool ?_,hfin _⟩
   rw [HP.out,E1.out,HAC.out,G2.out,G3.out]
   simp only [Bool.false_and,Bool.true_and,Bool.and_false]
  by_cases g3:t.way > 4
  ·have G3:=Lib.hid (show inR t.way 0 4=false from inR_gt g3)
   go_enter Tryz.func83,Tryz.ntmps83
   go_wp2
   rw [← HWW.out]
   go_quiet (first | (go_at_call 89;with_reducible refine Calls.quiet_of_same (hc1 _)))
   go_wp2
   go_ret
   refine⟨ret_bool ?_,hfin _⟩
   rw [HP.out,E1.out,HAC.out,G2.out,G3.out]
   simp only [Bool.false_and,Bool.true_and,Bool.and_false]
  have G3:=Lib.hid (show inR t.way 0 4=true from inR_in (by omega) (by omega))
  cases g4:regsOk t.regs with
  | false =>
   have G4:=Lib.hid g4
   clear g4
   go_enter Tryz.func83,Tryz.ntmps83
   go_wp2
   rw [← HWW.out]
   go_quiet (first | (go_at_call 89;with_reducible refine Calls.quiet_of_same (hc1 _)))
   go_wp2_with (first | (go_at_call 122;with_reducible refine(regsOkI_calls t.regs R cr _ S (Row.drewN (hrr.belowAll hbW) _)).mono ?_;rintro e w' ⟨rfl,rfl⟩;rw [G4.out]))
   go_ret
   refine⟨ret_bool ?_,hfin _⟩
   rw [HP.out,E1.out,HAC.out,G2.out,G3.out,G4.out]
   simp only [Bool.false_and,Bool.true_and,Bool.and_false]
  | true =>
   have G4:=Lib.hid g4
   clear g4
   cases g5:regsOk t.old with
   | false =>
    have G5:=Lib.hid g5
    clear g5
    go_enter Tryz.func83,Tryz.ntmps83
    go_wp2
    rw [← HWW.out]
    go_quiet (first | (go_at_call 89;with_reducible refine Calls.quiet_of_same (hc1 _)))
    go_wp2_with (first | (go_at_call 122;with_reducible refine(regsOkI_calls t.regs R cr _ S (Row.drewN (hrr.belowAll hbW) _)).mono ?_;rintro e w' ⟨rfl,rfl⟩;rw [G4.out]) | (go_at_call 122;with_reducible refine(regsOkI_calls t.old O co _ S (Row.drewN (hro.belowAll hbW) _)).mono ?_;rintro e w' ⟨rfl,rfl⟩;rw [G5.out]))
    go_ret
    refine⟨ret_bool ?_,hfin _⟩
    rw [HP.out,E1.out,HAC.out,G2.out,G3.out,G4.out,G5.out]
    simp only [Bool.false_and,Bool.true_and,Bool.and_false]
   | true =>
    have G5:=Lib.hid g5
    clear g5
    by_cases f6:t.since<0
    ·have G6:=Lib.hid (show inR t.since 0 s.clock=false from inR_lt f6)
     go_enter Tryz.func83,Tryz.ntmps83
     go_wp2
     rw [← HWW.out]
     go_quiet (first | (go_at_call 89;with_reducible refine Calls.quiet_of_same (hc1 _)))
     go_wp2_with (first | (go_at_call 122;with_reducible refine(regsOkI_calls t.regs R cr _ S (Row.drewN (hrr.belowAll hbW) _)).mono ?_;rintro e w' ⟨rfl,rfl⟩;rw [G4.out]) | (go_at_call 122;with_reducible refine(regsOkI_calls t.old O co _ S (Row.drewN (hro.belowAll hbW) _)).mono ?_;rintro e w' ⟨rfl,rfl⟩;rw [G5.out]))
     go_ret
     refine⟨ret_bool ?_,hfin _⟩
     rw [HP.out,E1.out,HAC.out,G2.out,G3.out,G4.out,G5.out,G6.out]
     simp only [Bool.false_and,Bool.true_and,Bool.and_false]
    by_cases g6:t.since > s.clock
    ·have G6:=Lib.hid (show inR t.since 0 s.clock=false from inR_gt g6)
     go_enter Tryz.func83,Tryz.ntmps83
     go_wp2
     rw [← HWW.out]
     go_quiet (first | (go_at_call 89;with_reducible refine Calls.quiet_of_same (hc1 _)))
     go_wp2_with (first | (go_at_call 122;with_reducible refine(regsOkI_calls t.regs R cr _ S (Row.drewN (hrr.belowAll hbW) _)).mono ?_;rintro e w' ⟨rfl,rfl⟩;rw [G4.out]) | (go_at_call 122;with_reducible refine(regsOkI_calls t.old O co _ S (Row.drewN (hro.belowAll hbW) _)).mono ?_;rintro e w' ⟨rfl,rfl⟩;rw [G5.out]))
     go_ret
     refine⟨ret_bool ?_,hfin _⟩
     rw [HP.out,E1.out,HAC.out,G2.out,G3.out,G4.out,G5.out,G6.out]
     simp only [Bool.false_and,Bool.true_and,Bool.and_false]
    have G6:=Lib.hid (show inR t.since 0 s.clock=true from inR_in (by omega) (by omega))
    by_cases f7:t.frm<0
    ·have G7:=Lib.hid (show inR t.frm 0 s.log.length=false from inR_lt f7)
     go_enter Tryz.func83,Tryz.ntmps83
     go_wp2
     rw [← HWW.out]
     go_quiet (first | (go_at_call 89;with_reducible refine Calls.quiet_of_same (hc1 _)))
     go_wp2_with (first | (go_at_call 122;with_reducible refine(regsOkI_calls t.regs R cr _ S (Row.drewN (hrr.belowAll hbW) _)).mono ?_;rintro e w' ⟨rfl,rfl⟩;rw [G4.out]) | (go_at_call 122;with_reducible refine(regsOkI_calls t.old O co _ S (Row.drewN (hro.belowAll hbW) _)).mono ?_;rintro e w' ⟨rfl,rfl⟩;rw [G5.out]))
     go_ret
     refine⟨ret_bool ?_,hfin _⟩
     rw [HP.out,E1.out,HAC.out,G2.out,G3.out,G4.out,G5.out,G6.out,G7.out]
     simp only [Bool.false_and,Bool.true_and,Bool.and_false]
    by_cases g7:t.frm > (s.log.length:Int)
    ·have G7:=Lib.hid (show inR t.frm 0 s.log.length=false from inR_gt g7)
     go_enter Tryz.func83,Tryz.ntmps83
     go_wp2
     rw [← HWW.out]
     go_quiet (first | (go_at_call 89;with_reducible refine Calls.quiet_of_same (hc1 _)))
     go_wp2_with (first | (go_at_call 122;with_reducible refine(regsOkI_calls t.regs R cr _ S (Row.drewN (hrr.belowAll hbW) _)).mono ?_;rintro e w' ⟨rfl,rfl⟩;rw [G4.out]) | (go_at_call 122;with_reducible refine(regsOkI_calls t.old O co _ S (Row.drewN (hro.belowAll hbW) _)).mono ?_;rintro e w' ⟨rfl,rfl⟩;rw [G5.out]))
     go_ret
     refine⟨ret_bool ?_,hfin _⟩
     rw [HP.out,E1.out,HAC.out,G2.out,G3.out,G4.out,G5.out,G6.out,G7.out]
     simp only [Bool.false_and,Bool.true_and,Bool.and_false]
    have G7:=Lib.hid (show inR t.frm 0 s.log.length=true from inR_in (by omega) (by omega))
    cases g8:putsOk t.reads s.cells.length with
    | false =>
     have G8:=Lib.hid g8
     clear g8
     go_enter Tryz.func83,Tryz.ntmps83
     go_wp2
     rw [← HWW.out]
     go_quiet (first | (go_at_call 89;with_reducible refine Calls.quiet_of_same (hc1 _)))
     go_wp2_with (first | (go_at_call 122;with_reducible refine(regsOkI_calls t.regs R cr _ S (Row.drewN (hrr.belowAll hbW) _)).mono ?_;rintro e w' ⟨rfl,rfl⟩;rw [G4.out]) | (go_at_call 122;with_reducible refine(regsOkI_calls t.old O co _ S (Row.drewN (hro.belowAll hbW) _)).mono ?_;rintro e w' ⟨rfl,rfl⟩;rw [G5.out]) | (go_at_call 123;with_reducible refine(putsOk_calls t.reads D cd _ _ S (Row.drewN (hrd.belowAll hbW) _) (by omega) (by omega)).mono ?_;rintro e w5 ⟨rfl,hb5⟩;rw [G8.out];have q5:Below W.heap.size W w5:=below_then (below_drewN' (Below.refl _ W) _) (Nat.le_refl _) hb5;have zt0:=(q5.cell (p:=⟨w.heap.size+1+1,0,none⟩) ht).trans bt0;have zt1:=(q5.cell (p:=⟨w.heap.size+1+1,1,none⟩) ht).trans bt1;have zt2:=(q5.cell (p:=⟨w.heap.size+1+1,2,none⟩) ht).trans bt2;have zt3:=(q5.cell (p:=⟨w.heap.size+1+1,3,none⟩) ht).trans bt3;have zt4:=(q5.cell (p:=⟨w.heap.size+1+1,4,none⟩) ht).trans bt4;have zt5:=(q5.cell (p:=⟨w.heap.size+1+1,5,none⟩) ht).trans bt5;have zt6:=(q5.cell (p:=⟨w.heap.size+1+1,6,none⟩) ht).trans bt6;have zt7:=(q5.cell (p:=⟨w.heap.size+1+1,7,none⟩) ht).trans bt7;have zt8:=(q5.cell (p:=⟨w.heap.size+1+1,8,none⟩) ht).trans bt8;have zt9:=(q5.cell (p:=⟨w.heap.size+1+1,9,none⟩) ht).trans bt9;have zt10:=(q5.cell (p:=⟨w.heap.size+1+1,10,none⟩) ht).trans bt10;have zt11:=(q5.cell (p:=⟨w.heap.size+1+1,11,none⟩) ht).trans bt11;have zt12:=(q5.cell (p:=⟨w.heap.size+1+1,12,none⟩) ht).trans bt12;have zs0:=(q5.cell (p:=⟨w.heap.size+1,0,none⟩) hs).trans bs0;have zs1:=(q5.cell (p:=⟨w.heap.size+1,1,none⟩) hs).trans bs1;have zs2:=(q5.cell (p:=⟨w.heap.size+1,2,none⟩) hs).trans bs2;have zs3:=(q5.cell (p:=⟨w.heap.size+1,3,none⟩) hs).trans bs3;have zp0:=(q5.cell (p:=⟨w.heap.size,0,none⟩) hp).trans bp0;have zp1:=(q5.cell (p:=⟨w.heap.size,1,none⟩) hp).trans bp1))
     go_ret
     refine⟨ret_bool ?_,below_then hbW hbW.size q5⟩
     rw [HP.out,E1.out,HAC.out,G2.out,G3.out,G4.out,G5.out,G6.out,G7.out,G8.out]
     simp only [Bool.false_and,Bool.true_and,Bool.and_false]
    | true =>
     have G8:=Lib.hid g8
     clear g8
     go_enter Tryz.func83,Tryz.ntmps83
     go_wp2
     rw [← HWW.out]
     go_quiet (first | (go_at_call 89;with_reducible refine Calls.quiet_of_same (hc1 _)))
     go_wp2_with (first | (go_at_call 122;with_reducible refine(regsOkI_calls t.regs R cr _ S (Row.drewN (hrr.belowAll hbW) _)).mono ?_;rintro e w' ⟨rfl,rfl⟩;rw [G4.out]) | (go_at_call 122;with_reducible refine(regsOkI_calls t.old O co _ S (Row.drewN (hro.belowAll hbW) _)).mono ?_;rintro e w' ⟨rfl,rfl⟩;rw [G5.out]) | (go_at_call 123;with_reducible refine(putsOk_calls t.reads D cd _ _ S (Row.drewN (hrd.belowAll hbW) _) (by omega) (by omega)).mono ?_;rintro e w5 ⟨rfl,hb5⟩;rw [G8.out];have q5:Below W.heap.size W w5:=below_then (below_drewN' (Below.refl _ W) _) (Nat.le_refl _) hb5;have zt0:=(q5.cell (p:=⟨w.heap.size+1+1,0,none⟩) ht).trans bt0;have zt1:=(q5.cell (p:=⟨w.heap.size+1+1,1,none⟩) ht).trans bt1;have zt2:=(q5.cell (p:=⟨w.heap.size+1+1,2,none⟩) ht).trans bt2;have zt3:=(q5.cell (p:=⟨w.heap.size+1+1,3,none⟩) ht).trans bt3;have zt4:=(q5.cell (p:=⟨w.heap.size+1+1,4,none⟩) ht).trans bt4;have zt5:=(q5.cell (p:=⟨w.heap.size+1+1,5,none⟩) ht).trans bt5;have zt6:=(q5.cell (p:=⟨w.heap.size+1+1,6,none⟩) ht).trans bt6;have zt7:=(q5.cell (p:=⟨w.heap.size+1+1,7,none⟩) ht).trans bt7;have zt8:=(q5.cell (p:=⟨w.heap.size+1+1,8,none⟩) ht).trans bt8;have zt9:=(q5.cell (p:=⟨w.heap.size+1+1,9,none⟩) ht).trans bt9;have zt10:=(q5.cell (p:=⟨w.heap.size+1+1,10,none⟩) ht).trans bt10;have zt11:=(q5.cell (p:=⟨w.heap.size+1+1,11,none⟩) ht).trans bt11;have zt12:=(q5.cell (p:=⟨w.heap.size+1+1,12,none⟩) ht).trans bt12;have zs0:=(q5.cell (p:=⟨w.heap.size+1,0,none⟩) hs).trans bs0;have zs1:=(q5.cell (p:=⟨w.heap.size+1,1,none⟩) hs).trans bs1;have zs2:=(q5.cell (p:=⟨w.heap.size+1,2,none⟩) hs).trans bs2;have zs3:=(q5.cell (p:=⟨w.heap.size+1,3,none⟩) hs).trans bs3;have zp0:=(q5.cell (p:=⟨w.heap.size,0,none⟩) hp).trans bp0;have zp1:=(q5.cell (p:=⟨w.heap.size,1,none⟩) hp).trans bp1) | (go_at_call 123;with_reducible refine(putsOk_calls t.puts U cu _ _ S (hru.belowAll (below_then hbW hbW.size q5)) (by omega) (by omega)).mono ?_;rintro e w6 ⟨rfl,hb6⟩;have q6:Below W.heap.size W w6:=below_then q5 q5.size hb6))
     go_ret
     refine⟨ret_bool ?_,below_then hbW hbW.size q6⟩
     rw [HP.out,E1.out,HAC.out,G2.out,G3.out,G4.out,G5.out,G6.out,G7.out,G8.out]
     simp only [Bool.false_and,Bool.true_and,Bool.and_false]
end Go.Proofs.YtjacjafmimgfcaaGreat
