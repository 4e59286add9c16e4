/- The program's look at a system: how far a task's change is. -/
import Derived.Test.YtjacjafmimgfcaaGreatWau
import Derived.Test.YtjacjafmimgfcaaGreatWbl
set_option linter.unusedVariables false
set_option linter.unusedSimpArgs false
namespace Go.Proofs.YtjacjafmimgfcaaGreat
open Go.RowKit
set_option maxHeartbeats 4000000 in
set_option maxRecDepth 100000 in
theorem stageOk_calls (p:Prog)(s:Sys)(t:Task)(P Q A B C R O D U:Option Addr)(cp cq ca cb cc cr co cd cu:Nat)(w:World)(S:Nat→Prop)(hQ:Row (Kd.slice kAct) w S Q p.bodies)(hc0:0≤s.clock)(hc1:s.clock≤200)(hbody:0≤t.body∧t.body<p.bodies.length)(hpc:0≤t.pc∧t.pc≤(p.acts t.body).length)(hmr:t.reads.length≤9223372036854775807)(hmu:t.puts.length≤9223372036854775807) :
  Calls Tryz.prog 84 #[.agg #[.slice P p.cells.length cp,.slice Q p.bodies.length cq],.agg #[.slice A s.cells.length ca,.slice B s.tasks.length cb,.int .i64 s.clock,.slice C s.log.length cc],.agg #[.int .i64 t.body,.int .i64 t.pc,.int .i64 t.up,.slice R t.regs.length cr,.int .i64 t.way,.int .i64 t.stage,.int .i64 t.pos,.int .i64 t.since,.slice O t.old.length co,.slice D t.reads.length cd,.slice U t.puts.length cu,.int .i64 t.whn,.int .i64 t.frm]] w fun e w'=>e=.returned (.bool (stageOkI p s t))∧Below w.heap.size w w':=by
 have hmq:=hQ.1
 have hwr:IntKind.i64.wrap (s.clock+1)=s.clock+1:=IntWalk.i64_in _ (by omega)
 have hb3:=fun o1 o2 o3=>alB3 w o1 o2 o3
 by_cases e0:t.stage=0
 ·have b0:(t.stage == 0)=true:=by simp [e0]
  have HS:Hid (stageOkI p s t=(decide (t.pos=0) && decide (t.reads.length=0) && decide (t.puts.length=0) && inR t.whn 0 (s.clock+1))):=Lib.hid (by unfold stageOkI;rw [if_pos e0])
  clear e0
  by_cases f1:t.pos=0
  ·have g1:(t.pos == 0)=true:=by simp [f1]
   have F1:=Lib.hid f1
   clear f1
   by_cases f2:t.reads.length=0
   ·have g2:((t.reads.length:Int) == 0)=true:=by rw [f2];rfl
    have F2:=Lib.hid f2
    clear f2
    by_cases f3:t.puts.length=0
    ·have g3:((t.puts.length:Int) == 0)=true:=by rw [f3];rfl
     have F3:=Lib.hid f3
     clear f3
     by_cases f4:t.whn ≥ 0
     ·have F4:Hid (t.whn ≥ 0):=Lib.hid f4
      go_enter Tryz.func84,Tryz.ntmps84
      go_wp2
      go_ret
      exact⟨ret_bool (by rw [HS.out,decide_eq_true F1.out,decide_eq_true F2.out,decide_eq_true F3.out];have:=F4.out;simp [inR];omega),hb3 _ _ _⟩
     ·have F4:=Lib.hid f4
      go_enter Tryz.func84,Tryz.ntmps84
      go_wp2
      go_ret
      exact⟨ret_bool (by rw [HS.out,inR_lt (by omega)];simp),hb3 _ _ _⟩
    ·have g3:((t.puts.length:Int) == 0)=false:=beq_eq_false_iff_ne.2 (by omega)
     have F3:=Lib.hid f3
     clear f3
     go_enter Tryz.func84,Tryz.ntmps84
     go_wp2
     go_ret
     exact⟨ret_bool (by rw [HS.out,decide_eq_false F3.out];simp),hb3 _ _ _⟩
   ·have g2:((t.reads.length:Int) == 0)=false:=beq_eq_false_iff_ne.2 (by omega)
    have F2:=Lib.hid f2
    clear f2
    go_enter Tryz.func84,Tryz.ntmps84
    go_wp2
    go_ret
    exact⟨ret_bool (by rw [HS.out,decide_eq_false F2.out];simp),hb3 _ _ _⟩
  ·have g1:(t.pos == 0)=false:=by simp [f1]
   have F1:=Lib.hid f1
   clear f1
   go_enter Tryz.func84,Tryz.ntmps84
   go_wp2
   go_ret
   exact⟨ret_bool (by rw [HS.out,decide_eq_false F1.out];simp),hb3 _ _ _⟩
 ·have b0:(t.stage == 0)=false:=by simp [e0]
  obtain⟨W,HW⟩:∃ W,W=((w.alloc (Obj.cells #[.slice P p.cells.length cp,.slice Q p.bodies.length cq] 39)).alloc (Obj.cells #[.slice A s.cells.length ca,.slice B s.tasks.length cb,.int .i64 s.clock,.slice C s.log.length cc] 45)).alloc (Obj.cells #[.int .i64 t.body,.int .i64 t.pc,.int .i64 t.up,.slice R t.regs.length cr,.int .i64 t.way,.int .i64 t.stage,.int .i64 t.pos,.int .i64 t.since,.slice O t.old.length co,.slice D t.reads.length cd,.slice U t.puts.length cu,.int .i64 t.whn,.int .i64 t.frm] 118):=⟨_,rfl⟩
  have hbW:Below w.heap.size w W:=by rw [HW];exact alB3 w _ _ _
  have hzW:W.heap.size=w.heap.size+3:=by rw [HW];simp
  have bt4:W.cell? ⟨w.heap.size+1+1,4,none⟩=some (.int .i64 t.way):=by rw [HW];simp [go_sem]
  have bt5:W.cell? ⟨w.heap.size+1+1,5,none⟩=some (.int .i64 t.stage):=by rw [HW];simp [go_sem]
  have bt6:W.cell? ⟨w.heap.size+1+1,6,none⟩=some (.int .i64 t.pos):=by rw [HW];simp [go_sem]
  have bt7:W.cell? ⟨w.heap.size+1+1,7,none⟩=some (.int .i64 t.since):=by rw [HW];simp [go_sem]
  have bt9:W.cell? ⟨w.heap.size+1+1,9,none⟩=some (.slice D t.reads.length cd):=by rw [HW];simp [go_sem]
  have bt10:W.cell? ⟨w.heap.size+1+1,10,none⟩=some (.slice U t.puts.length cu):=by rw [HW];simp [go_sem]
  have bt11:W.cell? ⟨w.heap.size+1+1,11,none⟩=some (.int .i64 t.whn):=by rw [HW];simp [go_sem]
  have bs2:W.cell? ⟨w.heap.size+1,2,none⟩=some (.int .i64 s.clock):=by rw [HW];simp [go_sem]
  have ht:w.heap.size+1+1<W.heap.size:=by omega
  have hs:w.heap.size+1<W.heap.size:=by omega
  have HQZ:=Lib.hid (fun (w1:World) (hb1:Below W.heap.size W w1)=>And.intro (Nat.lt_of_lt_of_le ht hb1.size) (And.intro (Nat.lt_of_lt_of_le hs hb1.size) (And.intro (fun o=>below_then (below_then hbW hbW.size hb1) (Nat.le_trans hbW.size hb1.size) (alB w1 o)) (And.intro (fun o=>((alB w1 o).cell (p:=⟨w.heap.size+1+1,4,none⟩) (Nat.lt_of_lt_of_le ht hb1.size)).trans ((hb1.cell (p:=⟨w.heap.size+1+1,4,none⟩) ht).trans bt4)) (And.intro (fun o=>((alB w1 o).cell (p:=⟨w.heap.size+1+1,5,none⟩) (Nat.lt_of_lt_of_le ht hb1.size)).trans ((hb1.cell (p:=⟨w.heap.size+1+1,5,none⟩) ht).trans bt5)) (And.intro (fun o=>((alB w1 o).cell (p:=⟨w.heap.size+1+1,6,none⟩) (Nat.lt_of_lt_of_le ht hb1.size)).trans ((hb1.cell (p:=⟨w.heap.size+1+1,6,none⟩) ht).trans bt6)) (And.intro (fun o=>((alB w1 o).cell (p:=⟨w.heap.size+1+1,7,none⟩) (Nat.lt_of_lt_of_le ht hb1.size)).trans ((hb1.cell (p:=⟨w.heap.size+1+1,7,none⟩) ht).trans bt7)) (And.intro (fun o=>((alB w1 o).cell (p:=⟨w.heap.size+1+1,9,none⟩) (Nat.lt_of_lt_of_le ht hb1.size)).trans ((hb1.cell (p:=⟨w.heap.size+1+1,9,none⟩) ht).trans bt9)) (And.intro (fun o=>((alB w1 o).cell (p:=⟨w.heap.size+1+1,10,none⟩) (Nat.lt_of_lt_of_le ht hb1.size)).trans ((hb1.cell (p:=⟨w.heap.size+1+1,10,none⟩) ht).trans bt10)) (And.intro (fun o=>((alB w1 o).cell (p:=⟨w.heap.size+1+1,11,none⟩) (Nat.lt_of_lt_of_le ht hb1.size)).trans ((hb1.cell (p:=⟨w.heap.size+1+1,11,none⟩) ht).trans bt11)) (fun o=>((alB w1 o).cell (p:=⟨w.heap.size+1,2,none⟩) (Nat.lt_of_lt_of_le hs hb1.size)).trans ((hb1.cell (p:=⟨w.heap.size+1,2,none⟩) hs).trans bs2))))))))))))
  have HWW:=Lib.hid HW
  have HZ:=Lib.hid hzW
  have HE0:=Lib.hid e0
  clear HW hzW e0
  cases et:p.there t with
  | false =>
   have ET:=Lib.hid et
   have HS:Hid (stageOkI p s t=false):=Lib.hid (by unfold stageOkI;rw [if_neg HE0.out,if_neg (fun h=>by rw [et] at h;simp at h)])
   clear et
   by_cases f1:t.way=0
   ·have g1:(t.way != 0)=false:=by simp [f1]
    clear f1
    go_enter Tryz.func84,Tryz.ntmps84
    go_wp2_with (go_at_call 124;refine(actAt_calls p t P Q R O D U cp cq cr co cd cu _ S (hQ.belowAll (alB3 w _ _ _)) hbody hpc).mono ?_;rintro e w1 ⟨⟨G,K,cg,ck,rfl,hG,hK⟩,hb1⟩;rw [← HWW.out] at hb1;rw [ET.out];obtain⟨ht1,hs1,hbw1,zt4,zt5,zt6,zt7,zt9,zt10,zt11,zs2⟩:=HQZ.out w1 hb1)
    go_ret
    exact⟨ret_bool HS.out.symm,hbw1 _⟩
   ·have g1:(t.way != 0)=true:=by simp [f1]
    clear f1
    go_enter Tryz.func84,Tryz.ntmps84
    go_wp2_with (go_at_call 124;refine(actAt_calls p t P Q R O D U cp cq cr co cd cu _ S (hQ.belowAll (alB3 w _ _ _)) hbody hpc).mono ?_;rintro e w1 ⟨⟨G,K,cg,ck,rfl,hG,hK⟩,hb1⟩;rw [← HWW.out] at hb1;rw [ET.out];obtain⟨ht1,hs1,hbw1,zt4,zt5,zt6,zt7,zt9,zt10,zt11,zs2⟩:=HQZ.out w1 hb1)
    go_ret
    exact⟨ret_bool HS.out.symm,hbw1 _⟩
  | true =>
   have ET:=Lib.hid et
   have hgot:actGot p t=p.act t:=by unfold actGot;rw [if_pos et]
   have HGOT:=Lib.hid hgot
   by_cases f1:t.way=0
   rotate_left
   ·have g1:(t.way != 0)=true:=by simp [f1]
    have HS:Hid (stageOkI p s t=false):=Lib.hid (by unfold stageOkI;rw [if_neg HE0.out,if_neg (fun h=>f1 h.1)])
    clear f1 et hgot
    go_enter Tryz.func84,Tryz.ntmps84
    go_wp2_with (go_at_call 124;refine(actAt_calls p t P Q R O D U cp cq cr co cd cu _ S (hQ.belowAll (alB3 w _ _ _)) hbody hpc).mono ?_;rintro e w1 ⟨⟨G,K,cg,ck,rfl,hG,hK⟩,hb1⟩;rw [← HWW.out] at hb1;rw [ET.out];obtain⟨ht1,hs1,hbw1,zt4,zt5,zt6,zt7,zt9,zt10,zt11,zs2⟩:=HQZ.out w1 hb1)
    go_ret
    exact⟨ret_bool HS.out.symm,hbw1 _⟩
   ·have g1:(t.way != 0)=false:=by simp [f1]
    by_cases f2:(p.act t).kind=1
    rotate_left
    ·have g2:((actGot p t).kind != 1)=true:=by rw [hgot];simp [f2]
     have HS:Hid (stageOkI p s t=false):=Lib.hid (by unfold stageOkI;rw [if_neg HE0.out,if_neg (fun h=>f2 h.2.2)])
     clear f1 et hgot f2
     go_enter Tryz.func84,Tryz.ntmps84
     go_wp2_with (go_at_call 124;refine(actAt_calls p t P Q R O D U cp cq cr co cd cu _ S (hQ.belowAll (alB3 w _ _ _)) hbody hpc).mono ?_;rintro e w1 ⟨⟨G,K,cg,ck,rfl,hG,hK⟩,hb1⟩;rw [← HWW.out] at hb1;rw [ET.out];obtain⟨ht1,hs1,hbw1,zt4,zt5,zt6,zt7,zt9,zt10,zt11,zs2⟩:=HQZ.out w1 hb1)
     go_ret
     exact⟨ret_bool HS.out.symm,hbw1 _⟩
    ·have g2:((actGot p t).kind != 1)=false:=by rw [hgot];simp [f2]
     have HS:Hid (stageOkI p s t=(if t.stage=1 then inR t.pos 0 (p.act t).deeds.length && decide (t.whn=0) else if t.stage=2 then inR t.pos 0 ((t.puts.length:Int)-1) && decide (t.whn=0) else if t.stage=3 then decide (0<t.puts.length) && decide (t.pos=0) && decide (t.whn=0) else if t.stage=4 then decide (0<t.puts.length) && inR t.pos 0 t.reads.length && inR t.whn (t.since+1) s.clock else if t.stage=5 then inR t.pos 0 ((t.puts.length:Int)-1) && inR t.whn (t.since+1) s.clock else false)):=Lib.hid (by unfold stageOkI;rw [if_neg HE0.out,if_pos ⟨f1,et,f2⟩])
     clear f1 et hgot f2
     have hmd:True:=trivial
     by_cases q1:t.whn > t.since
     ·by_cases q2:t.whn≤s.clock
      ·have HT:=Lib.hid (show inR t.whn (t.since+1) s.clock=true from inR_in (by omega) (by omega))
       by_cases s1:t.stage=1
       ·have b1:(t.stage == 1)=true:=by simp [s1]
        have HS1:Hid (stageOkI p s t=(inR t.pos 0 (p.act t).deeds.length && decide (t.whn=0))):=Lib.hid (by rw [HS.out,if_pos s1])
        clear s1
        have HG2:=hmd
        by_cases u1:t.pos ≥ 0
        ·by_cases u2:t.pos≤(actGot p t).deeds.length
         ·have EP:=Lib.hid (show inR t.pos 0 (p.act t).deeds.length=true by rw [← HGOT.out];exact inR_in (by omega) (by omega))
          go_enter Tryz.func84,Tryz.ntmps84
          go_wp2_with (go_at_call 124;refine(actAt_calls p t P Q R O D U cp cq cr co cd cu _ S (hQ.belowAll (alB3 w _ _ _)) hbody hpc).mono ?_;rintro e w1 ⟨⟨G,K,cg,ck,rfl,hG,hK⟩,hb1⟩;rw [← HWW.out] at hb1;rw [ET.out];obtain⟨ht1,hs1,hbw1,zt4,zt5,zt6,zt7,zt9,zt10,zt11,zs2⟩:=HQZ.out w1 hb1)
          go_quiet (fail)
          go_wp2
          go_ret
          exact⟨ret_bool (by rw [HS1.out,EP.out];simp<;>(first | rfl | omega)),by repeat' (first | exact hbw1 _ | apply below_drewN1)⟩
         ·have EP:=Lib.hid (show inR t.pos 0 (p.act t).deeds.length=false by rw [← HGOT.out];exact inR_gt (by omega))
          go_enter Tryz.func84,Tryz.ntmps84
          go_wp2_with (go_at_call 124;refine(actAt_calls p t P Q R O D U cp cq cr co cd cu _ S (hQ.belowAll (alB3 w _ _ _)) hbody hpc).mono ?_;rintro e w1 ⟨⟨G,K,cg,ck,rfl,hG,hK⟩,hb1⟩;rw [← HWW.out] at hb1;rw [ET.out];obtain⟨ht1,hs1,hbw1,zt4,zt5,zt6,zt7,zt9,zt10,zt11,zs2⟩:=HQZ.out w1 hb1)
          go_quiet (fail)
          go_wp2
          go_ret
          exact⟨ret_bool (by rw [HS1.out,EP.out];simp<;>(first | rfl | omega)),by repeat' (first | exact hbw1 _ | apply below_drewN1)⟩
        ·have EP:=Lib.hid (show inR t.pos 0 (p.act t).deeds.length=false from inR_lt (by omega))
         go_enter Tryz.func84,Tryz.ntmps84
         go_wp2_with (go_at_call 124;refine(actAt_calls p t P Q R O D U cp cq cr co cd cu _ S (hQ.belowAll (alB3 w _ _ _)) hbody hpc).mono ?_;rintro e w1 ⟨⟨G,K,cg,ck,rfl,hG,hK⟩,hb1⟩;rw [← HWW.out] at hb1;rw [ET.out];obtain⟨ht1,hs1,hbw1,zt4,zt5,zt6,zt7,zt9,zt10,zt11,zs2⟩:=HQZ.out w1 hb1)
         go_quiet (fail)
         go_wp2
         go_ret
         exact⟨ret_bool (by rw [HS1.out,EP.out];simp<;>(first | rfl | omega)),by repeat' (first | exact hbw1 _ | apply below_drewN1)⟩
       ·have b1:(t.stage == 1)=false:=by simp [s1]
        by_cases s2:t.stage=2
        ·have b2:(t.stage == 2)=true:=by simp [s2]
         have HS1:Hid (stageOkI p s t=(inR t.pos 0 ((t.puts.length:Int)-1) && decide (t.whn=0))):=Lib.hid (by rw [HS.out,if_neg s1,if_pos s2])
         clear s1 s2
         cases ep:inR t.pos 0 ((t.puts.length:Int)-1) with
         | false =>
          have EP:=Lib.hid ep
          clear ep
          go_enter Tryz.func84,Tryz.ntmps84
          go_wp2_with (go_at_call 124;refine(actAt_calls p t P Q R O D U cp cq cr co cd cu _ S (hQ.belowAll (alB3 w _ _ _)) hbody hpc).mono ?_;rintro e w1 ⟨⟨G,K,cg,ck,rfl,hG,hK⟩,hb1⟩;rw [← HWW.out] at hb1;rw [ET.out];obtain⟨ht1,hs1,hbw1,zt4,zt5,zt6,zt7,zt9,zt10,zt11,zs2⟩:=HQZ.out w1 hb1)
          go_quiet (fail)
          go_wp2_with (first | (go_at_call 89;refine(isPlace_calls _ _ _ (by omega)).mono ?_;rintro e w' ⟨rfl,rfl⟩;rw [EP.out]))
          go_ret
          exact⟨ret_bool (by rw [HS1.out,EP.out];simp<;>(first | rfl | omega)),by repeat' (first | exact hbw1 _ | apply below_drewN1)⟩
         | true =>
          have EP:=Lib.hid ep
          clear ep
          go_enter Tryz.func84,Tryz.ntmps84
          go_wp2_with (go_at_call 124;refine(actAt_calls p t P Q R O D U cp cq cr co cd cu _ S (hQ.belowAll (alB3 w _ _ _)) hbody hpc).mono ?_;rintro e w1 ⟨⟨G,K,cg,ck,rfl,hG,hK⟩,hb1⟩;rw [← HWW.out] at hb1;rw [ET.out];obtain⟨ht1,hs1,hbw1,zt4,zt5,zt6,zt7,zt9,zt10,zt11,zs2⟩:=HQZ.out w1 hb1)
          go_quiet (fail)
          go_wp2_with (first | (go_at_call 89;refine(isPlace_calls _ _ _ (by omega)).mono ?_;rintro e w' ⟨rfl,rfl⟩;rw [EP.out]))
          go_ret
          exact⟨ret_bool (by rw [HS1.out,EP.out];simp<;>(first | rfl | omega)),by repeat' (first | exact hbw1 _ | apply below_drewN1)⟩
        ·have b2:(t.stage == 2)=false:=by simp [s2]
         by_cases s3:t.stage=3
         ·have b3:(t.stage == 3)=true:=by simp [s3]
          have HS1:Hid (stageOkI p s t=(decide (0<t.puts.length) && decide (t.pos=0) && decide (t.whn=0))):=Lib.hid (by rw [HS.out,if_neg s1,if_neg s2,if_pos s3])
          clear s1 s2 s3
          by_cases u1:(t.puts.length:Int) > 0
          ·have EP:=Lib.hid (show decide (0<t.puts.length)=true from decide_eq_true (by omega))
           by_cases u2:t.pos=0
           ·have v2:(t.pos == 0)=true:=by simp [u2]
            have EQ:=Lib.hid u2
            clear u2
            go_enter Tryz.func84,Tryz.ntmps84
            go_wp2_with (go_at_call 124;refine(actAt_calls p t P Q R O D U cp cq cr co cd cu _ S (hQ.belowAll (alB3 w _ _ _)) hbody hpc).mono ?_;rintro e w1 ⟨⟨G,K,cg,ck,rfl,hG,hK⟩,hb1⟩;rw [← HWW.out] at hb1;rw [ET.out];obtain⟨ht1,hs1,hbw1,zt4,zt5,zt6,zt7,zt9,zt10,zt11,zs2⟩:=HQZ.out w1 hb1)
            go_quiet (fail)
            go_wp2
            go_ret
            exact⟨ret_bool (by rw [HS1.out,EP.out,decide_eq_true EQ.out];simp<;>(first | rfl | omega)),by repeat' (first | exact hbw1 _ | apply below_drewN1)⟩
           ·have v2:(t.pos == 0)=false:=by simp [u2]
            have EQ:=Lib.hid u2
            clear u2
            go_enter Tryz.func84,Tryz.ntmps84
            go_wp2_with (go_at_call 124;refine(actAt_calls p t P Q R O D U cp cq cr co cd cu _ S (hQ.belowAll (alB3 w _ _ _)) hbody hpc).mono ?_;rintro e w1 ⟨⟨G,K,cg,ck,rfl,hG,hK⟩,hb1⟩;rw [← HWW.out] at hb1;rw [ET.out];obtain⟨ht1,hs1,hbw1,zt4,zt5,zt6,zt7,zt9,zt10,zt11,zs2⟩:=HQZ.out w1 hb1)
            go_quiet (fail)
            go_wp2
            go_ret
            exact⟨ret_bool (by rw [HS1.out,decide_eq_false EQ.out];simp<;>(first | rfl | omega)),by repeat' (first | exact hbw1 _ | apply below_drewN1)⟩
          ·have EP:=Lib.hid (show decide (0<t.puts.length)=false from decide_eq_false (by omega))
           go_enter Tryz.func84,Tryz.ntmps84
           go_wp2_with (go_at_call 124;refine(actAt_calls p t P Q R O D U cp cq cr co cd cu _ S (hQ.belowAll (alB3 w _ _ _)) hbody hpc).mono ?_;rintro e w1 ⟨⟨G,K,cg,ck,rfl,hG,hK⟩,hb1⟩;rw [← HWW.out] at hb1;rw [ET.out];obtain⟨ht1,hs1,hbw1,zt4,zt5,zt6,zt7,zt9,zt10,zt11,zs2⟩:=HQZ.out w1 hb1)
           go_quiet (fail)
           go_wp2
           go_ret
           exact⟨ret_bool (by rw [HS1.out,EP.out];simp<;>(first | rfl | omega)),by repeat' (first | exact hbw1 _ | apply below_drewN1)⟩
         ·have b3:(t.stage == 3)=false:=by simp [s3]
          by_cases s4:t.stage=4
          ·have b4:(t.stage == 4)=true:=by simp [s4]
           have HS1:Hid (stageOkI p s t=(decide (0<t.puts.length) && inR t.pos 0 t.reads.length && inR t.whn (t.since+1) s.clock)):=Lib.hid (by rw [HS.out,if_neg s1,if_neg s2,if_neg s3,if_pos s4])
           clear s1 s2 s3 s4
           by_cases u1:(t.puts.length:Int) > 0
           ·have EP:=Lib.hid (show decide (0<t.puts.length)=true from decide_eq_true (by omega))
            by_cases u2:t.pos ≥ 0
            ·by_cases u3:t.pos≤t.reads.length
             ·have EQ:=Lib.hid (show inR t.pos 0 t.reads.length=true from inR_in (by omega) (by omega))
              go_enter Tryz.func84,Tryz.ntmps84
              go_wp2_with (go_at_call 124;refine(actAt_calls p t P Q R O D U cp cq cr co cd cu _ S (hQ.belowAll (alB3 w _ _ _)) hbody hpc).mono ?_;rintro e w1 ⟨⟨G,K,cg,ck,rfl,hG,hK⟩,hb1⟩;rw [← HWW.out] at hb1;rw [ET.out];obtain⟨ht1,hs1,hbw1,zt4,zt5,zt6,zt7,zt9,zt10,zt11,zs2⟩:=HQZ.out w1 hb1)
              go_quiet (fail)
              go_wp2
              go_ret
              exact⟨ret_bool (by rw [HS1.out,EP.out,EQ.out,HT.out];simp<;>(first | rfl | omega)),by repeat' (first | exact hbw1 _ | apply below_drewN1)⟩
             ·have EQ:=Lib.hid (show inR t.pos 0 t.reads.length=false from inR_gt (by omega))
              go_enter Tryz.func84,Tryz.ntmps84
              go_wp2_with (go_at_call 124;refine(actAt_calls p t P Q R O D U cp cq cr co cd cu _ S (hQ.belowAll (alB3 w _ _ _)) hbody hpc).mono ?_;rintro e w1 ⟨⟨G,K,cg,ck,rfl,hG,hK⟩,hb1⟩;rw [← HWW.out] at hb1;rw [ET.out];obtain⟨ht1,hs1,hbw1,zt4,zt5,zt6,zt7,zt9,zt10,zt11,zs2⟩:=HQZ.out w1 hb1)
              go_quiet (fail)
              go_wp2
              go_ret
              exact⟨ret_bool (by rw [HS1.out,EQ.out];simp<;>(first | rfl | omega)),by repeat' (first | exact hbw1 _ | apply below_drewN1)⟩
            ·have EQ:=Lib.hid (show inR t.pos 0 t.reads.length=false from inR_lt (by omega))
             go_enter Tryz.func84,Tryz.ntmps84
             go_wp2_with (go_at_call 124;refine(actAt_calls p t P Q R O D U cp cq cr co cd cu _ S (hQ.belowAll (alB3 w _ _ _)) hbody hpc).mono ?_;rintro e w1 ⟨⟨G,K,cg,ck,rfl,hG,hK⟩,hb1⟩;rw [← HWW.out] at hb1;rw [ET.out];obtain⟨ht1,hs1,hbw1,zt4,zt5,zt6,zt7,zt9,zt10,zt11,zs2⟩:=HQZ.out w1 hb1)
             go_quiet (fail)
             go_wp2
             go_ret
             exact⟨ret_bool (by rw [HS1.out,EQ.out];simp<;>(first | rfl | omega)),by repeat' (first | exact hbw1 _ | apply below_drewN1)⟩
           ·have EP:=Lib.hid (show decide (0<t.puts.length)=false from decide_eq_false (by omega))
            go_enter Tryz.func84,Tryz.ntmps84
            go_wp2_with (go_at_call 124;refine(actAt_calls p t P Q R O D U cp cq cr co cd cu _ S (hQ.belowAll (alB3 w _ _ _)) hbody hpc).mono ?_;rintro e w1 ⟨⟨G,K,cg,ck,rfl,hG,hK⟩,hb1⟩;rw [← HWW.out] at hb1;rw [ET.out];obtain⟨ht1,hs1,hbw1,zt4,zt5,zt6,zt7,zt9,zt10,zt11,zs2⟩:=HQZ.out w1 hb1)
            go_quiet (fail)
            go_wp2
            go_ret
            exact⟨ret_bool (by rw [HS1.out,EP.out];simp<;>(first | rfl | omega)),by repeat' (first | exact hbw1 _ | apply below_drewN1)⟩
          ·have b4:(t.stage == 4)=false:=by simp [s4]
           by_cases s5:t.stage=5
           ·have b5:(t.stage == 5)=true:=by simp [s5]
            have HS1:Hid (stageOkI p s t=(inR t.pos 0 ((t.puts.length:Int)-1) && inR t.whn (t.since+1) s.clock)):=Lib.hid (by rw [HS.out,if_neg s1,if_neg s2,if_neg s3,if_neg s4,if_pos s5])
            clear s1 s2 s3 s4 s5
            cases ep:inR t.pos 0 ((t.puts.length:Int)-1) with
            | false =>
             have EP:=Lib.hid ep
             clear ep
             go_enter Tryz.func84,Tryz.ntmps84
             go_wp2_with (go_at_call 124;refine(actAt_calls p t P Q R O D U cp cq cr co cd cu _ S (hQ.belowAll (alB3 w _ _ _)) hbody hpc).mono ?_;rintro e w1 ⟨⟨G,K,cg,ck,rfl,hG,hK⟩,hb1⟩;rw [← HWW.out] at hb1;rw [ET.out];obtain⟨ht1,hs1,hbw1,zt4,zt5,zt6,zt7,zt9,zt10,zt11,zs2⟩:=HQZ.out w1 hb1)
             go_quiet (fail)
             go_wp2_with (first | (go_at_call 89;refine(isPlace_calls _ _ _ (by omega)).mono ?_;rintro e w' ⟨rfl,rfl⟩;rw [EP.out]))
             go_ret
             exact⟨ret_bool (by rw [HS1.out,EP.out];simp<;>(first | rfl | omega)),by repeat' (first | exact hbw1 _ | apply below_drewN1)⟩
            | true =>
             have EP:=Lib.hid ep
             clear ep
             go_enter Tryz.func84,Tryz.ntmps84
             go_wp2_with (go_at_call 124;refine(actAt_calls p t P Q R O D U cp cq cr co cd cu _ S (hQ.belowAll (alB3 w _ _ _)) hbody hpc).mono ?_;rintro e w1 ⟨⟨G,K,cg,ck,rfl,hG,hK⟩,hb1⟩;rw [← HWW.out] at hb1;rw [ET.out];obtain⟨ht1,hs1,hbw1,zt4,zt5,zt6,zt7,zt9,zt10,zt11,zs2⟩:=HQZ.out w1 hb1)
             go_quiet (fail)
             go_wp2_with (first | (go_at_call 89;refine(isPlace_calls _ _ _ (by omega)).mono ?_;rintro e w' ⟨rfl,rfl⟩;rw [EP.out]))
             go_ret
             exact⟨ret_bool (by rw [HS1.out,EP.out,HT.out];simp<;>(first | rfl | omega)),by repeat' (first | exact hbw1 _ | apply below_drewN1)⟩
           ·have b5:(t.stage == 5)=false:=by simp [s5]
            have HS1:Hid (stageOkI p s t=false):=Lib.hid (by rw [HS.out,if_neg s1,if_neg s2,if_neg s3,if_neg s4,if_neg s5])
            clear s1 s2 s3 s4 s5
            go_enter Tryz.func84,Tryz.ntmps84
            go_wp2_with (go_at_call 124;refine(actAt_calls p t P Q R O D U cp cq cr co cd cu _ S (hQ.belowAll (alB3 w _ _ _)) hbody hpc).mono ?_;rintro e w1 ⟨⟨G,K,cg,ck,rfl,hG,hK⟩,hb1⟩;rw [← HWW.out] at hb1;rw [ET.out];obtain⟨ht1,hs1,hbw1,zt4,zt5,zt6,zt7,zt9,zt10,zt11,zs2⟩:=HQZ.out w1 hb1)
            go_quiet (fail)
            go_wp2
            go_ret
            exact⟨ret_bool (by rw [HS1.out]),by repeat' (first | exact hbw1 _ | apply below_drewN1)⟩
      ·have HT:=Lib.hid (show inR t.whn (t.since+1) s.clock=false from inR_gt (by omega))
       by_cases s1:t.stage=1
       ·have b1:(t.stage == 1)=true:=by simp [s1]
        have HS1:Hid (stageOkI p s t=(inR t.pos 0 (p.act t).deeds.length && decide (t.whn=0))):=Lib.hid (by rw [HS.out,if_pos s1])
        clear s1
        have HG2:=hmd
        by_cases u1:t.pos ≥ 0
        ·by_cases u2:t.pos≤(actGot p t).deeds.length
         ·have EP:=Lib.hid (show inR t.pos 0 (p.act t).deeds.length=true by rw [← HGOT.out];exact inR_in (by omega) (by omega))
          go_enter Tryz.func84,Tryz.ntmps84
          go_wp2_with (go_at_call 124;refine(actAt_calls p t P Q R O D U cp cq cr co cd cu _ S (hQ.belowAll (alB3 w _ _ _)) hbody hpc).mono ?_;rintro e w1 ⟨⟨G,K,cg,ck,rfl,hG,hK⟩,hb1⟩;rw [← HWW.out] at hb1;rw [ET.out];obtain⟨ht1,hs1,hbw1,zt4,zt5,zt6,zt7,zt9,zt10,zt11,zs2⟩:=HQZ.out w1 hb1)
          go_quiet (fail)
          go_wp2
          go_ret
          exact⟨ret_bool (by rw [HS1.out,EP.out];simp<;>(first | rfl | omega)),by repeat' (first | exact hbw1 _ | apply below_drewN1)⟩
         ·have EP:=Lib.hid (show inR t.pos 0 (p.act t).deeds.length=false by rw [← HGOT.out];exact inR_gt (by omega))
          go_enter Tryz.func84,Tryz.ntmps84
          go_wp2_with (go_at_call 124;refine(actAt_calls p t P Q R O D U cp cq cr co cd cu _ S (hQ.belowAll (alB3 w _ _ _)) hbody hpc).mono ?_;rintro e w1 ⟨⟨G,K,cg,ck,rfl,hG,hK⟩,hb1⟩;rw [← HWW.out] at hb1;rw [ET.out];obtain⟨ht1,hs1,hbw1,zt4,zt5,zt6,zt7,zt9,zt10,zt11,zs2⟩:=HQZ.out w1 hb1)
          go_quiet (fail)
          go_wp2
          go_ret
          exact⟨ret_bool (by rw [HS1.out,EP.out];simp<;>(first | rfl | omega)),by repeat' (first | exact hbw1 _ | apply below_drewN1)⟩
        ·have EP:=Lib.hid (show inR t.pos 0 (p.act t).deeds.length=false from inR_lt (by omega))
         go_enter Tryz.func84,Tryz.ntmps84
         go_wp2_with (go_at_call 124;refine(actAt_calls p t P Q R O D U cp cq cr co cd cu _ S (hQ.belowAll (alB3 w _ _ _)) hbody hpc).mono ?_;rintro e w1 ⟨⟨G,K,cg,ck,rfl,hG,hK⟩,hb1⟩;rw [← HWW.out] at hb1;rw [ET.out];obtain⟨ht1,hs1,hbw1,zt4,zt5,zt6,zt7,zt9,zt10,zt11,zs2⟩:=HQZ.out w1 hb1)
         go_quiet (fail)
         go_wp2
         go_ret
         exact⟨ret_bool (by rw [HS1.out,EP.out];simp<;>(first | rfl | omega)),by repeat' (first | exact hbw1 _ | apply below_drewN1)⟩
       ·have b1:(t.stage == 1)=false:=by simp [s1]
        by_cases s2:t.stage=2
        ·have b2:(t.stage == 2)=true:=by simp [s2]
         have HS1:Hid (stageOkI p s t=(inR t.pos 0 ((t.puts.length:Int)-1) && decide (t.whn=0))):=Lib.hid (by rw [HS.out,if_neg s1,if_pos s2])
         clear s1 s2
         cases ep:inR t.pos 0 ((t.puts.length:Int)-1) with
         | false =>
          have EP:=Lib.hid ep
          clear ep
          go_enter Tryz.func84,Tryz.ntmps84
          go_wp2_with (go_at_call 124;refine(actAt_calls p t P Q R O D U cp cq cr co cd cu _ S (hQ.belowAll (alB3 w _ _ _)) hbody hpc).mono ?_;rintro e w1 ⟨⟨G,K,cg,ck,rfl,hG,hK⟩,hb1⟩;rw [← HWW.out] at hb1;rw [ET.out];obtain⟨ht1,hs1,hbw1,zt4,zt5,zt6,zt7,zt9,zt10,zt11,zs2⟩:=HQZ.out w1 hb1)
          go_quiet (fail)
          go_wp2_with (first | (go_at_call 89;refine(isPlace_calls _ _ _ (by omega)).mono ?_;rintro e w' ⟨rfl,rfl⟩;rw [EP.out]))
          go_ret
          exact⟨ret_bool (by rw [HS1.out,EP.out];simp<;>(first | rfl | omega)),by repeat' (first | exact hbw1 _ | apply below_drewN1)⟩
         | true =>
          have EP:=Lib.hid ep
          clear ep
          go_enter Tryz.func84,Tryz.ntmps84
          go_wp2_with (go_at_call 124;refine(actAt_calls p t P Q R O D U cp cq cr co cd cu _ S (hQ.belowAll (alB3 w _ _ _)) hbody hpc).mono ?_;rintro e w1 ⟨⟨G,K,cg,ck,rfl,hG,hK⟩,hb1⟩;rw [← HWW.out] at hb1;rw [ET.out];obtain⟨ht1,hs1,hbw1,zt4,zt5,zt6,zt7,zt9,zt10,zt11,zs2⟩:=HQZ.out w1 hb1)
          go_quiet (fail)
          go_wp2_with (first | (go_at_call 89;refine(isPlace_calls _ _ _ (by omega)).mono ?_;rintro e w' ⟨rfl,rfl⟩;rw [EP.out]))
          go_ret
          exact⟨ret_bool (by rw [HS1.out,EP.out];simp<;>(first | rfl | omega)),by repeat' (first | exact hbw1 _ | apply below_drewN1)⟩
        ·have b2:(t.stage == 2)=false:=by simp [s2]
         by_cases s3:t.stage=3
         ·have b3:(t.stage == 3)=true:=by simp [s3]
          have HS1:Hid (stageOkI p s t=(decide (0<t.puts.length) && decide (t.pos=0) && decide (t.whn=0))):=Lib.hid (by rw [HS.out,if_neg s1,if_neg s2,if_pos s3])
          clear s1 s2 s3
          by_cases u1:(t.puts.length:Int) > 0
          ·have EP:=Lib.hid (show decide (0<t.puts.length)=true from decide_eq_true (by omega))
           by_cases u2:t.pos=0
           ·have v2:(t.pos == 0)=true:=by simp [u2]
            have EQ:=Lib.hid u2
            clear u2
            go_enter Tryz.func84,Tryz.ntmps84
            go_wp2_with (go_at_call 124;refine(actAt_calls p t P Q R O D U cp cq cr co cd cu _ S (hQ.belowAll (alB3 w _ _ _)) hbody hpc).mono ?_;rintro e w1 ⟨⟨G,K,cg,ck,rfl,hG,hK⟩,hb1⟩;rw [← HWW.out] at hb1;rw [ET.out];obtain⟨ht1,hs1,hbw1,zt4,zt5,zt6,zt7,zt9,zt10,zt11,zs2⟩:=HQZ.out w1 hb1)
            go_quiet (fail)
            go_wp2
            go_ret
            exact⟨ret_bool (by rw [HS1.out,EP.out,decide_eq_true EQ.out];simp<;>(first | rfl | omega)),by repeat' (first | exact hbw1 _ | apply below_drewN1)⟩
           ·have v2:(t.pos == 0)=false:=by simp [u2]
            have EQ:=Lib.hid u2
            clear u2
            go_enter Tryz.func84,Tryz.ntmps84
            go_wp2_with (go_at_call 124;refine(actAt_calls p t P Q R O D U cp cq cr co cd cu _ S (hQ.belowAll (alB3 w _ _ _)) hbody hpc).mono ?_;rintro e w1 ⟨⟨G,K,cg,ck,rfl,hG,hK⟩,hb1⟩;rw [← HWW.out] at hb1;rw [ET.out];obtain⟨ht1,hs1,hbw1,zt4,zt5,zt6,zt7,zt9,zt10,zt11,zs2⟩:=HQZ.out w1 hb1)
            go_quiet (fail)
            go_wp2
            go_ret
            exact⟨ret_bool (by rw [HS1.out,decide_eq_false EQ.out];simp<;>(first | rfl | omega)),by repeat' (first | exact hbw1 _ | apply below_drewN1)⟩
          ·have EP:=Lib.hid (show decide (0<t.puts.length)=false from decide_eq_false (by omega))
           go_enter Tryz.func84,Tryz.ntmps84
           go_wp2_with (go_at_call 124;refine(actAt_calls p t P Q R O D U cp cq cr co cd cu _ S (hQ.belowAll (alB3 w _ _ _)) hbody hpc).mono ?_;rintro e w1 ⟨⟨G,K,cg,ck,rfl,hG,hK⟩,hb1⟩;rw [← HWW.out] at hb1;rw [ET.out];obtain⟨ht1,hs1,hbw1,zt4,zt5,zt6,zt7,zt9,zt10,zt11,zs2⟩:=HQZ.out w1 hb1)
           go_quiet (fail)
           go_wp2
           go_ret
           exact⟨ret_bool (by rw [HS1.out,EP.out];simp<;>(first | rfl | omega)),by repeat' (first | exact hbw1 _ | apply below_drewN1)⟩
         ·have b3:(t.stage == 3)=false:=by simp [s3]
          by_cases s4:t.stage=4
          ·have b4:(t.stage == 4)=true:=by simp [s4]
           have HS1:Hid (stageOkI p s t=(decide (0<t.puts.length) && inR t.pos 0 t.reads.length && inR t.whn (t.since+1) s.clock)):=Lib.hid (by rw [HS.out,if_neg s1,if_neg s2,if_neg s3,if_pos s4])
           clear s1 s2 s3 s4
           by_cases u1:(t.puts.length:Int) > 0
           ·have EP:=Lib.hid (show decide (0<t.puts.length)=true from decide_eq_true (by omega))
            by_cases u2:t.pos ≥ 0
            ·by_cases u3:t.pos≤t.reads.length
             ·have EQ:=Lib.hid (show inR t.pos 0 t.reads.length=true from inR_in (by omega) (by omega))
              go_enter Tryz.func84,Tryz.ntmps84
              go_wp2_with (go_at_call 124;refine(actAt_calls p t P Q R O D U cp cq cr co cd cu _ S (hQ.belowAll (alB3 w _ _ _)) hbody hpc).mono ?_;rintro e w1 ⟨⟨G,K,cg,ck,rfl,hG,hK⟩,hb1⟩;rw [← HWW.out] at hb1;rw [ET.out];obtain⟨ht1,hs1,hbw1,zt4,zt5,zt6,zt7,zt9,zt10,zt11,zs2⟩:=HQZ.out w1 hb1)
              go_quiet (fail)
              go_wp2
              go_ret
              exact⟨ret_bool (by rw [HS1.out,EP.out,EQ.out,HT.out];simp<;>(first | rfl | omega)),by repeat' (first | exact hbw1 _ | apply below_drewN1)⟩
             ·have EQ:=Lib.hid (show inR t.pos 0 t.reads.length=false from inR_gt (by omega))
              go_enter Tryz.func84,Tryz.ntmps84
              go_wp2_with (go_at_call 124;refine(actAt_calls p t P Q R O D U cp cq cr co cd cu _ S (hQ.belowAll (alB3 w _ _ _)) hbody hpc).mono ?_;rintro e w1 ⟨⟨G,K,cg,ck,rfl,hG,hK⟩,hb1⟩;rw [← HWW.out] at hb1;rw [ET.out];obtain⟨ht1,hs1,hbw1,zt4,zt5,zt6,zt7,zt9,zt10,zt11,zs2⟩:=HQZ.out w1 hb1)
              go_quiet (fail)
              go_wp2
              go_ret
              exact⟨ret_bool (by rw [HS1.out,EQ.out];simp<;>(first | rfl | omega)),by repeat' (first | exact hbw1 _ | apply below_drewN1)⟩
            ·have EQ:=Lib.hid (show inR t.pos 0 t.reads.length=false from inR_lt (by omega))
             go_enter Tryz.func84,Tryz.ntmps84
             go_wp2_with (go_at_call 124;refine(actAt_calls p t P Q R O D U cp cq cr co cd cu _ S (hQ.belowAll (alB3 w _ _ _)) hbody hpc).mono ?_;rintro e w1 ⟨⟨G,K,cg,ck,rfl,hG,hK⟩,hb1⟩;rw [← HWW.out] at hb1;rw [ET.out];obtain⟨ht1,hs1,hbw1,zt4,zt5,zt6,zt7,zt9,zt10,zt11,zs2⟩:=HQZ.out w1 hb1)
             go_quiet (fail)
             go_wp2
             go_ret
             exact⟨ret_bool (by rw [HS1.out,EQ.out];simp<;>(first | rfl | omega)),by repeat' (first | exact hbw1 _ | apply below_drewN1)⟩
           ·have EP:=Lib.hid (show decide (0<t.puts.length)=false from decide_eq_false (by omega))
            go_enter Tryz.func84,Tryz.ntmps84
            go_wp2_with (go_at_call 124;refine(actAt_calls p t P Q R O D U cp cq cr co cd cu _ S (hQ.belowAll (alB3 w _ _ _)) hbody hpc).mono ?_;rintro e w1 ⟨⟨G,K,cg,ck,rfl,hG,hK⟩,hb1⟩;rw [← HWW.out] at hb1;rw [ET.out];obtain⟨ht1,hs1,hbw1,zt4,zt5,zt6,zt7,zt9,zt10,zt11,zs2⟩:=HQZ.out w1 hb1)
            go_quiet (fail)
            go_wp2
            go_ret
            exact⟨ret_bool (by rw [HS1.out,EP.out];simp<;>(first | rfl | omega)),by repeat' (first | exact hbw1 _ | apply below_drewN1)⟩
          ·have b4:(t.stage == 4)=false:=by simp [s4]
           by_cases s5:t.stage=5
           ·have b5:(t.stage == 5)=true:=by simp [s5]
            have HS1:Hid (stageOkI p s t=(inR t.pos 0 ((t.puts.length:Int)-1) && inR t.whn (t.since+1) s.clock)):=Lib.hid (by rw [HS.out,if_neg s1,if_neg s2,if_neg s3,if_neg s4,if_pos s5])
            clear s1 s2 s3 s4 s5
            cases ep:inR t.pos 0 ((t.puts.length:Int)-1) with
            | false =>
             have EP:=Lib.hid ep
             clear ep
             go_enter Tryz.func84,Tryz.ntmps84
             go_wp2_with (go_at_call 124;refine(actAt_calls p t P Q R O D U cp cq cr co cd cu _ S (hQ.belowAll (alB3 w _ _ _)) hbody hpc).mono ?_;rintro e w1 ⟨⟨G,K,cg,ck,rfl,hG,hK⟩,hb1⟩;rw [← HWW.out] at hb1;rw [ET.out];obtain⟨ht1,hs1,hbw1,zt4,zt5,zt6,zt7,zt9,zt10,zt11,zs2⟩:=HQZ.out w1 hb1)
             go_quiet (fail)
             go_wp2_with (first | (go_at_call 89;refine(isPlace_calls _ _ _ (by omega)).mono ?_;rintro e w' ⟨rfl,rfl⟩;rw [EP.out]))
             go_ret
             exact⟨ret_bool (by rw [HS1.out,EP.out];simp<;>(first | rfl | omega)),by repeat' (first | exact hbw1 _ | apply below_drewN1)⟩
            | true =>
             have EP:=Lib.hid ep
             clear ep
             go_enter Tryz.func84,Tryz.ntmps84
             go_wp2_with (go_at_call 124;refine(actAt_calls p t P Q R O D U cp cq cr co cd cu _ S (hQ.belowAll (alB3 w _ _ _)) hbody hpc).mono ?_;rintro e w1 ⟨⟨G,K,cg,ck,rfl,hG,hK⟩,hb1⟩;rw [← HWW.out] at hb1;rw [ET.out];obtain⟨ht1,hs1,hbw1,zt4,zt5,zt6,zt7,zt9,zt10,zt11,zs2⟩:=HQZ.out w1 hb1)
             go_quiet (fail)
             go_wp2_with (first | (go_at_call 89;refine(isPlace_calls _ _ _ (by omega)).mono ?_;rintro e w' ⟨rfl,rfl⟩;rw [EP.out]))
             go_ret
             exact⟨ret_bool (by rw [HS1.out,EP.out,HT.out];simp<;>(first | rfl | omega)),by repeat' (first | exact hbw1 _ | apply below_drewN1)⟩
           ·have b5:(t.stage == 5)=false:=by simp [s5]
            have HS1:Hid (stageOkI p s t=false):=Lib.hid (by rw [HS.out,if_neg s1,if_neg s2,if_neg s3,if_neg s4,if_neg s5])
            clear s1 s2 s3 s4 s5
            go_enter Tryz.func84,Tryz.ntmps84
            go_wp2_with (go_at_call 124;refine(actAt_calls p t P Q R O D U cp cq cr co cd cu _ S (hQ.belowAll (alB3 w _ _ _)) hbody hpc).mono ?_;rintro e w1 ⟨⟨G,K,cg,ck,rfl,hG,hK⟩,hb1⟩;rw [← HWW.out] at hb1;rw [ET.out];obtain⟨ht1,hs1,hbw1,zt4,zt5,zt6,zt7,zt9,zt10,zt11,zs2⟩:=HQZ.out w1 hb1)
            go_quiet (fail)
            go_wp2
            go_ret
            exact⟨ret_bool (by rw [HS1.out]),by repeat' (first | exact hbw1 _ | apply below_drewN1)⟩
     ·have HT:=Lib.hid (show inR t.whn (t.since+1) s.clock=false from inR_lt (by omega))
      have q1b:decide (t.whn > t.since)=false:=decide_eq_false q1
      by_cases s1:t.stage=1
      ·have b1:(t.stage == 1)=true:=by simp [s1]
       have HS1:Hid (stageOkI p s t=(inR t.pos 0 (p.act t).deeds.length && decide (t.whn=0))):=Lib.hid (by rw [HS.out,if_pos s1])
       clear s1
       have HG2:=hmd
       by_cases u1:t.pos ≥ 0
       ·by_cases u2:t.pos≤(actGot p t).deeds.length
        ·have EP:=Lib.hid (show inR t.pos 0 (p.act t).deeds.length=true by rw [← HGOT.out];exact inR_in (by omega) (by omega))
         go_enter Tryz.func84,Tryz.ntmps84
         go_wp2_with (go_at_call 124;refine(actAt_calls p t P Q R O D U cp cq cr co cd cu _ S (hQ.belowAll (alB3 w _ _ _)) hbody hpc).mono ?_;rintro e w1 ⟨⟨G,K,cg,ck,rfl,hG,hK⟩,hb1⟩;rw [← HWW.out] at hb1;rw [ET.out];obtain⟨ht1,hs1,hbw1,zt4,zt5,zt6,zt7,zt9,zt10,zt11,zs2⟩:=HQZ.out w1 hb1)
         go_quiet (fail)
         go_wp2
         go_ret
         exact⟨ret_bool (by rw [HS1.out,EP.out];simp<;>(first | rfl | omega)),by repeat' (first | exact hbw1 _ | apply below_drewN1)⟩
        ·have EP:=Lib.hid (show inR t.pos 0 (p.act t).deeds.length=false by rw [← HGOT.out];exact inR_gt (by omega))
         go_enter Tryz.func84,Tryz.ntmps84
         go_wp2_with (go_at_call 124;refine(actAt_calls p t P Q R O D U cp cq cr co cd cu _ S (hQ.belowAll (alB3 w _ _ _)) hbody hpc).mono ?_;rintro e w1 ⟨⟨G,K,cg,ck,rfl,hG,hK⟩,hb1⟩;rw [← HWW.out] at hb1;rw [ET.out];obtain⟨ht1,hs1,hbw1,zt4,zt5,zt6,zt7,zt9,zt10,zt11,zs2⟩:=HQZ.out w1 hb1)
         go_quiet (fail)
         go_wp2
         go_ret
         exact⟨ret_bool (by rw [HS1.out,EP.out];simp<;>(first | rfl | omega)),by repeat' (first | exact hbw1 _ | apply below_drewN1)⟩
       ·have EP:=Lib.hid (show inR t.pos 0 (p.act t).deeds.length=false from inR_lt (by omega))
        go_enter Tryz.func84,Tryz.ntmps84
        go_wp2_with (go_at_call 124;refine(actAt_calls p t P Q R O D U cp cq cr co cd cu _ S (hQ.belowAll (alB3 w _ _ _)) hbody hpc).mono ?_;rintro e w1 ⟨⟨G,K,cg,ck,rfl,hG,hK⟩,hb1⟩;rw [← HWW.out] at hb1;rw [ET.out];obtain⟨ht1,hs1,hbw1,zt4,zt5,zt6,zt7,zt9,zt10,zt11,zs2⟩:=HQZ.out w1 hb1)
        go_quiet (fail)
        go_wp2
        go_ret
        exact⟨ret_bool (by rw [HS1.out,EP.out];simp<;>(first | rfl | omega)),by repeat' (first | exact hbw1 _ | apply below_drewN1)⟩
      ·have b1:(t.stage == 1)=false:=by simp [s1]
       by_cases s2:t.stage=2
       ·have b2:(t.stage == 2)=true:=by simp [s2]
        have HS1:Hid (stageOkI p s t=(inR t.pos 0 ((t.puts.length:Int)-1) && decide (t.whn=0))):=Lib.hid (by rw [HS.out,if_neg s1,if_pos s2])
        clear s1 s2
        cases ep:inR t.pos 0 ((t.puts.length:Int)-1) with
        | false =>
         have EP:=Lib.hid ep
         clear ep
         go_enter Tryz.func84,Tryz.ntmps84
         go_wp2_with (go_at_call 124;refine(actAt_calls p t P Q R O D U cp cq cr co cd cu _ S (hQ.belowAll (alB3 w _ _ _)) hbody hpc).mono ?_;rintro e w1 ⟨⟨G,K,cg,ck,rfl,hG,hK⟩,hb1⟩;rw [← HWW.out] at hb1;rw [ET.out];obtain⟨ht1,hs1,hbw1,zt4,zt5,zt6,zt7,zt9,zt10,zt11,zs2⟩:=HQZ.out w1 hb1)
         go_quiet (fail)
         go_wp2_with (first | (go_at_call 89;refine(isPlace_calls _ _ _ (by omega)).mono ?_;rintro e w' ⟨rfl,rfl⟩;rw [EP.out]))
         go_ret
         exact⟨ret_bool (by rw [HS1.out,EP.out];simp<;>(first | rfl | omega)),by repeat' (first | exact hbw1 _ | apply below_drewN1)⟩
        | true =>
         have EP:=Lib.hid ep
         clear ep
         go_enter Tryz.func84,Tryz.ntmps84
         go_wp2_with (go_at_call 124;refine(actAt_calls p t P Q R O D U cp cq cr co cd cu _ S (hQ.belowAll (alB3 w _ _ _)) hbody hpc).mono ?_;rintro e w1 ⟨⟨G,K,cg,ck,rfl,hG,hK⟩,hb1⟩;rw [← HWW.out] at hb1;rw [ET.out];obtain⟨ht1,hs1,hbw1,zt4,zt5,zt6,zt7,zt9,zt10,zt11,zs2⟩:=HQZ.out w1 hb1)
         go_quiet (fail)
         go_wp2_with (first | (go_at_call 89;refine(isPlace_calls _ _ _ (by omega)).mono ?_;rintro e w' ⟨rfl,rfl⟩;rw [EP.out]))
         go_ret
         exact⟨ret_bool (by rw [HS1.out,EP.out];simp<;>(first | rfl | omega)),by repeat' (first | exact hbw1 _ | apply below_drewN1)⟩
       ·have b2:(t.stage == 2)=false:=by simp [s2]
        by_cases s3:t.stage=3
        ·have b3:(t.stage == 3)=true:=by simp [s3]
         have HS1:Hid (stageOkI p s t=(decide (0<t.puts.length) && decide (t.pos=0) && decide (t.whn=0))):=Lib.hid (by rw [HS.out,if_neg s1,if_neg s2,if_pos s3])
         clear s1 s2 s3
         by_cases u1:(t.puts.length:Int) > 0
         ·have EP:=Lib.hid (show decide (0<t.puts.length)=true from decide_eq_true (by omega))
          by_cases u2:t.pos=0
          ·have v2:(t.pos == 0)=true:=by simp [u2]
           have EQ:=Lib.hid u2
           clear u2
           go_enter Tryz.func84,Tryz.ntmps84
           go_wp2_with (go_at_call 124;refine(actAt_calls p t P Q R O D U cp cq cr co cd cu _ S (hQ.belowAll (alB3 w _ _ _)) hbody hpc).mono ?_;rintro e w1 ⟨⟨G,K,cg,ck,rfl,hG,hK⟩,hb1⟩;rw [← HWW.out] at hb1;rw [ET.out];obtain⟨ht1,hs1,hbw1,zt4,zt5,zt6,zt7,zt9,zt10,zt11,zs2⟩:=HQZ.out w1 hb1)
           go_quiet (fail)
           go_wp2
           go_ret
           exact⟨ret_bool (by rw [HS1.out,EP.out,decide_eq_true EQ.out];simp<;>(first | rfl | omega)),by repeat' (first | exact hbw1 _ | apply below_drewN1)⟩
          ·have v2:(t.pos == 0)=false:=by simp [u2]
           have EQ:=Lib.hid u2
           clear u2
           go_enter Tryz.func84,Tryz.ntmps84
           go_wp2_with (go_at_call 124;refine(actAt_calls p t P Q R O D U cp cq cr co cd cu _ S (hQ.belowAll (alB3 w _ _ _)) hbody hpc).mono ?_;rintro e w1 ⟨⟨G,K,cg,ck,rfl,hG,hK⟩,hb1⟩;rw [← HWW.out] at hb1;rw [ET.out];obtain⟨ht1,hs1,hbw1,zt4,zt5,zt6,zt7,zt9,zt10,zt11,zs2⟩:=HQZ.out w1 hb1)
           go_quiet (fail)
           go_wp2
           go_ret
           exact⟨ret_bool (by rw [HS1.out,decide_eq_false EQ.out];simp<;>(first | rfl | omega)),by repeat' (first | exact hbw1 _ | apply below_drewN1)⟩
         ·have EP:=Lib.hid (show decide (0<t.puts.length)=false from decide_eq_false (by omega))
          go_enter Tryz.func84,Tryz.ntmps84
          go_wp2_with (go_at_call 124;refine(actAt_calls p t P Q R O D U cp cq cr co cd cu _ S (hQ.belowAll (alB3 w _ _ _)) hbody hpc).mono ?_;rintro e w1 ⟨⟨G,K,cg,ck,rfl,hG,hK⟩,hb1⟩;rw [← HWW.out] at hb1;rw [ET.out];obtain⟨ht1,hs1,hbw1,zt4,zt5,zt6,zt7,zt9,zt10,zt11,zs2⟩:=HQZ.out w1 hb1)
          go_quiet (fail)
          go_wp2
          go_ret
          exact⟨ret_bool (by rw [HS1.out,EP.out];simp<;>(first | rfl | omega)),by repeat' (first | exact hbw1 _ | apply below_drewN1)⟩
        ·have b3:(t.stage == 3)=false:=by simp [s3]
         by_cases s4:t.stage=4
         ·have b4:(t.stage == 4)=true:=by simp [s4]
          have HS1:Hid (stageOkI p s t=(decide (0<t.puts.length) && inR t.pos 0 t.reads.length && inR t.whn (t.since+1) s.clock)):=Lib.hid (by rw [HS.out,if_neg s1,if_neg s2,if_neg s3,if_pos s4])
          clear s1 s2 s3 s4
          by_cases u1:(t.puts.length:Int) > 0
          ·have EP:=Lib.hid (show decide (0<t.puts.length)=true from decide_eq_true (by omega))
           by_cases u2:t.pos ≥ 0
           ·by_cases u3:t.pos≤t.reads.length
            ·have EQ:=Lib.hid (show inR t.pos 0 t.reads.length=true from inR_in (by omega) (by omega))
             go_enter Tryz.func84,Tryz.ntmps84
             go_wp2_with (go_at_call 124;refine(actAt_calls p t P Q R O D U cp cq cr co cd cu _ S (hQ.belowAll (alB3 w _ _ _)) hbody hpc).mono ?_;rintro e w1 ⟨⟨G,K,cg,ck,rfl,hG,hK⟩,hb1⟩;rw [← HWW.out] at hb1;rw [ET.out];obtain⟨ht1,hs1,hbw1,zt4,zt5,zt6,zt7,zt9,zt10,zt11,zs2⟩:=HQZ.out w1 hb1)
             go_quiet (fail)
             go_wp2
             go_ret
             exact⟨ret_bool (by rw [HS1.out,EP.out,EQ.out,HT.out];simp<;>(first | rfl | omega)),by repeat' (first | exact hbw1 _ | apply below_drewN1)⟩
            ·have EQ:=Lib.hid (show inR t.pos 0 t.reads.length=false from inR_gt (by omega))
             go_enter Tryz.func84,Tryz.ntmps84
             go_wp2_with (go_at_call 124;refine(actAt_calls p t P Q R O D U cp cq cr co cd cu _ S (hQ.belowAll (alB3 w _ _ _)) hbody hpc).mono ?_;rintro e w1 ⟨⟨G,K,cg,ck,rfl,hG,hK⟩,hb1⟩;rw [← HWW.out] at hb1;rw [ET.out];obtain⟨ht1,hs1,hbw1,zt4,zt5,zt6,zt7,zt9,zt10,zt11,zs2⟩:=HQZ.out w1 hb1)
             go_quiet (fail)
             go_wp2
             go_ret
             exact⟨ret_bool (by rw [HS1.out,EQ.out];simp<;>(first | rfl | omega)),by repeat' (first | exact hbw1 _ | apply below_drewN1)⟩
           ·have EQ:=Lib.hid (show inR t.pos 0 t.reads.length=false from inR_lt (by omega))
            go_enter Tryz.func84,Tryz.ntmps84
            go_wp2_with (go_at_call 124;refine(actAt_calls p t P Q R O D U cp cq cr co cd cu _ S (hQ.belowAll (alB3 w _ _ _)) hbody hpc).mono ?_;rintro e w1 ⟨⟨G,K,cg,ck,rfl,hG,hK⟩,hb1⟩;rw [← HWW.out] at hb1;rw [ET.out];obtain⟨ht1,hs1,hbw1,zt4,zt5,zt6,zt7,zt9,zt10,zt11,zs2⟩:=HQZ.out w1 hb1)
            go_quiet (fail)
            go_wp2
            go_ret
            exact⟨ret_bool (by rw [HS1.out,EQ.out];simp<;>(first | rfl | omega)),by repeat' (first | exact hbw1 _ | apply below_drewN1)⟩
          ·have EP:=Lib.hid (show decide (0<t.puts.length)=false from decide_eq_false (by omega))
           go_enter Tryz.func84,Tryz.ntmps84
           go_wp2_with (go_at_call 124;refine(actAt_calls p t P Q R O D U cp cq cr co cd cu _ S (hQ.belowAll (alB3 w _ _ _)) hbody hpc).mono ?_;rintro e w1 ⟨⟨G,K,cg,ck,rfl,hG,hK⟩,hb1⟩;rw [← HWW.out] at hb1;rw [ET.out];obtain⟨ht1,hs1,hbw1,zt4,zt5,zt6,zt7,zt9,zt10,zt11,zs2⟩:=HQZ.out w1 hb1)
           go_quiet (fail)
           go_wp2
           go_ret
           exact⟨ret_bool (by rw [HS1.out,EP.out];simp<;>(first | rfl | omega)),by repeat' (first | exact hbw1 _ | apply below_drewN1)⟩
         ·have b4:(t.stage == 4)=false:=by simp [s4]
          by_cases s5:t.stage=5
          ·have b5:(t.stage == 5)=true:=by simp [s5]
           have HS1:Hid (stageOkI p s t=(inR t.pos 0 ((t.puts.length:Int)-1) && inR t.whn (t.since+1) s.clock)):=Lib.hid (by rw [HS.out,if_neg s1,if_neg s2,if_neg s3,if_neg s4,if_pos s5])
           clear s1 s2 s3 s4 s5
           cases ep:inR t.pos 0 ((t.puts.length:Int)-1) with
           | false =>
            have EP:=Lib.hid ep
            clear ep
            go_enter Tryz.func84,Tryz.ntmps84
            go_wp2_with (go_at_call 124;refine(actAt_calls p t P Q R O D U cp cq cr co cd cu _ S (hQ.belowAll (alB3 w _ _ _)) hbody hpc).mono ?_;rintro e w1 ⟨⟨G,K,cg,ck,rfl,hG,hK⟩,hb1⟩;rw [← HWW.out] at hb1;rw [ET.out];obtain⟨ht1,hs1,hbw1,zt4,zt5,zt6,zt7,zt9,zt10,zt11,zs2⟩:=HQZ.out w1 hb1)
            go_quiet (fail)
            go_wp2_with (first | (go_at_call 89;refine(isPlace_calls _ _ _ (by omega)).mono ?_;rintro e w' ⟨rfl,rfl⟩;rw [EP.out]))
            go_ret
            exact⟨ret_bool (by rw [HS1.out,EP.out];simp<;>(first | rfl | omega)),by repeat' (first | exact hbw1 _ | apply below_drewN1)⟩
           | true =>
            have EP:=Lib.hid ep
            clear ep
            go_enter Tryz.func84,Tryz.ntmps84
            go_wp2_with (go_at_call 124;refine(actAt_calls p t P Q R O D U cp cq cr co cd cu _ S (hQ.belowAll (alB3 w _ _ _)) hbody hpc).mono ?_;rintro e w1 ⟨⟨G,K,cg,ck,rfl,hG,hK⟩,hb1⟩;rw [← HWW.out] at hb1;rw [ET.out];obtain⟨ht1,hs1,hbw1,zt4,zt5,zt6,zt7,zt9,zt10,zt11,zs2⟩:=HQZ.out w1 hb1)
            go_quiet (fail)
            go_wp2_with (first | (go_at_call 89;refine(isPlace_calls _ _ _ (by omega)).mono ?_;rintro e w' ⟨rfl,rfl⟩;rw [EP.out]))
            go_ret
            exact⟨ret_bool (by rw [HS1.out,EP.out,HT.out];simp<;>(first | rfl | omega)),by repeat' (first | exact hbw1 _ | apply below_drewN1)⟩
          ·have b5:(t.stage == 5)=false:=by simp [s5]
           have HS1:Hid (stageOkI p s t=false):=Lib.hid (by rw [HS.out,if_neg s1,if_neg s2,if_neg s3,if_neg s4,if_neg s5])
           clear s1 s2 s3 s4 s5
           go_enter Tryz.func84,Tryz.ntmps84
           go_wp2_with (go_at_call 124;refine(actAt_calls p t P Q R O D U cp cq cr co cd cu _ S (hQ.belowAll (alB3 w _ _ _)) hbody hpc).mono ?_;rintro e w1 ⟨⟨G,K,cg,ck,rfl,hG,hK⟩,hb1⟩;rw [← HWW.out] at hb1;rw [ET.out];obtain⟨ht1,hs1,hbw1,zt4,zt5,zt6,zt7,zt9,zt10,zt11,zs2⟩:=HQZ.out w1 hb1)
           go_quiet (fail)
           go_wp2
           go_ret
           exact⟨ret_bool (by rw [HS1.out]),by repeat' (first | exact hbw1 _ | apply below_drewN1)⟩
end Go.Proofs.YtjacjafmimgfcaaGreat
