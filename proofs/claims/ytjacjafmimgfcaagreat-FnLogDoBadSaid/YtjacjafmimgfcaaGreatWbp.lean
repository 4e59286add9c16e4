/- The program's look at a system: all of it. -/
import Derived.Test.YtjacjafmimgfcaaGreatWah
import Derived.Test.YtjacjafmimgfcaaGreatWbm
import Derived.Test.YtjacjafmimgfcaaGreatWbo
set_option linter.unusedVariables false
set_option linter.unusedSimpArgs false
namespace Go.Proofs.YtjacjafmimgfcaaGreat
open Go.RowKit
theorem sysOkI_parts (p:Prog)(s:Sys):sysOkI p s=(progOk p && (decide ((s.cells.length:Int)=p.cells.length) && (inR s.clock 0 200 && (cellsOkI s && (inR s.tasks.length 1 7 && (s.tasks.all (fun t=>formOkI p s t && stageOkI p s t) && ((List.range s.tasks.length).all (fun i=>upOk s i && wayOkI p s i) && (locksOkI s && logOkI p s)))))))):=by
 unfold sysOkI
 simp only [Bool.and_assoc]
theorem formOkI_at {p:Prog}{s:Sys}{t:Task}(h:formOkI p s t=true):(0≤t.body∧t.body<p.bodies.length)∧(0≤t.pc∧t.pc≤(p.acts t.body).length):=by
 simp only [formOkI,inR,Bool.and_eq_true,decide_eq_true_eq] at h
 obtain⟨⟨⟨⟨⟨⟨⟨⟨h1,h2⟩,_⟩,_⟩,_⟩,_⟩,_⟩,_⟩,_⟩:=h
 exact⟨⟨h1.1,by omega⟩,h2.1,by omega⟩
set_option maxHeartbeats 4000000 in
set_option maxRecDepth 100000 in
theorem implSysOkI_calls (p:Prog)(s:Sys)(P Q A B C:Option Addr)(cp cq ca cb cc:Nat)(w:World)(S:Nat→Prop)(hP:Row Kd.int w S P p.cells)(hQ:Row (Kd.slice kAct) w S Q p.bodies)(hS:SysR w S s A B C) :
  Calls Tryz.prog 46 #[.agg #[.slice P p.cells.length cp,.slice Q p.bodies.length cq],.agg #[.slice A s.cells.length ca,.slice B s.tasks.length cb,.int .i64 s.clock,.slice C s.log.length cc]] w fun e w'=>e=.returned (.bool (sysOkI p s))∧Below w.heap.size w w':=by
 obtain⟨hC,hT,hL⟩:=hS
 have hml:=hL.1
 have hmt:=hT.1
 have hmc:=hC.1
 have hmp:=hP.1
 obtain⟨W,HW⟩:∃ W,W=(w.alloc (Obj.cells #[.slice P p.cells.length cp,.slice Q p.bodies.length cq] 39)).alloc (Obj.cells #[.slice A s.cells.length ca,.slice B s.tasks.length cb,.int .i64 s.clock,.slice C s.log.length cc] 45):=⟨_,rfl⟩
 have hbW:Below w.heap.size w W:=by rw [HW];exact alB2 w _ _
 have hzW:W.heap.size=w.heap.size+2:=by rw [HW];simp
 have bs0:W.cell? ⟨w.heap.size+1,0,none⟩=some (.slice A s.cells.length ca):=by rw [HW];simp [go_sem]
 have bs1:W.cell? ⟨w.heap.size+1,1,none⟩=some (.slice B s.tasks.length cb):=by rw [HW];simp [go_sem]
 have bs2:W.cell? ⟨w.heap.size+1,2,none⟩=some (.int .i64 s.clock):=by rw [HW];simp [go_sem]
 have bs3:W.cell? ⟨w.heap.size+1,3,none⟩=some (.slice C s.log.length cc):=by rw [HW];simp [go_sem]
 have bp0:W.cell? ⟨w.heap.size,0,none⟩=some (.slice P p.cells.length cp):=by rw [HW];simp [go_sem]
 have bp1:W.cell? ⟨w.heap.size,1,none⟩=some (.slice Q p.bodies.length cq):=by rw [HW];simp [go_sem]
 have hs:w.heap.size+1<W.heap.size:=by omega
 have hp:w.heap.size<W.heap.size:=by omega
 have HWW:=Lib.hid HW
 have HP:=Lib.hid (sysOkI_parts p s)
 clear HW hzW
 cases e1:progOk p with
 | false =>
  have E1:=Lib.hid e1
  clear e1
  go_enter Tryz.func46,Tryz.ntmps46
  go_wp2_with (first | (go_at_call 81;refine(implProgOk_calls p P Q cp cq _ S (hP.belowAll (alB2 w _ _)) (hQ.belowAll (alB2 w _ _))).mono ?_;rintro e w1 ⟨rfl,hb1⟩;rw [← HWW.out] at hb1;rw [E1.out];have hbw1:Below w.heap.size w w1:=below_then hbW hbW.size hb1;have zs0:=(hb1.cell (p:=⟨w.heap.size+1,0,none⟩) hs).trans bs0;have zs1:=(hb1.cell (p:=⟨w.heap.size+1,1,none⟩) hs).trans bs1;have zs2:=(hb1.cell (p:=⟨w.heap.size+1,2,none⟩) hs).trans bs2;have zs3:=(hb1.cell (p:=⟨w.heap.size+1,3,none⟩) hs).trans bs3;have zp0:=(hb1.cell (p:=⟨w.heap.size,0,none⟩) hp).trans bp0;have zp1:=(hb1.cell (p:=⟨w.heap.size,1,none⟩) hp).trans bp1))
  go_ret
  exact⟨ret_bool (by rw [HP.out,E1.out];simp only [Bool.true_and,Bool.false_and]),hbw1⟩
 | true =>
  have hlen:=formOk_len (by unfold progOk at e1;simp only [Bool.and_eq_true] at e1;exact e1.1)
  have E1:=Lib.hid e1
  clear e1
  by_cases e2:(s.cells.length:Int)=p.cells.length
  rotate_left
  ·have b2:((s.cells.length:Int) != p.cells.length)=true:=bne_iff_ne.2 e2
   have E2:=Lib.hid e2
   clear e2
   go_enter Tryz.func46,Tryz.ntmps46
   go_wp2_with (first | (go_at_call 81;refine(implProgOk_calls p P Q cp cq _ S (hP.belowAll (alB2 w _ _)) (hQ.belowAll (alB2 w _ _))).mono ?_;rintro e w1 ⟨rfl,hb1⟩;rw [← HWW.out] at hb1;rw [E1.out];have hbw1:Below w.heap.size w w1:=below_then hbW hbW.size hb1;have zs0:=(hb1.cell (p:=⟨w.heap.size+1,0,none⟩) hs).trans bs0;have zs1:=(hb1.cell (p:=⟨w.heap.size+1,1,none⟩) hs).trans bs1;have zs2:=(hb1.cell (p:=⟨w.heap.size+1,2,none⟩) hs).trans bs2;have zs3:=(hb1.cell (p:=⟨w.heap.size+1,3,none⟩) hs).trans bs3;have zp0:=(hb1.cell (p:=⟨w.heap.size,0,none⟩) hp).trans bp0;have zp1:=(hb1.cell (p:=⟨w.heap.size,1,none⟩) hp).trans bp1))
   go_ret
   exact⟨ret_bool (by rw [HP.out,E1.out,decide_eq_false E2.out];simp only [Bool.true_and,Bool.false_and]),hbw1⟩
  have b2:((s.cells.length:Int) != p.cells.length)=false:=by simp only [e2];simp
  have hnc:s.cells.length≤1000:=by omega
  have E2:=Lib.hid e2
  clear e2
  by_cases c1:s.clock<0
  ·have E3:=Lib.hid (show inR s.clock 0 200=false from inR_lt c1)
   go_enter Tryz.func46,Tryz.ntmps46
   go_wp2_with (first | (go_at_call 81;refine(implProgOk_calls p P Q cp cq _ S (hP.belowAll (alB2 w _ _)) (hQ.belowAll (alB2 w _ _))).mono ?_;rintro e w1 ⟨rfl,hb1⟩;rw [← HWW.out] at hb1;rw [E1.out];have hbw1:Below w.heap.size w w1:=below_then hbW hbW.size hb1;have zs0:=(hb1.cell (p:=⟨w.heap.size+1,0,none⟩) hs).trans bs0;have zs1:=(hb1.cell (p:=⟨w.heap.size+1,1,none⟩) hs).trans bs1;have zs2:=(hb1.cell (p:=⟨w.heap.size+1,2,none⟩) hs).trans bs2;have zs3:=(hb1.cell (p:=⟨w.heap.size+1,3,none⟩) hs).trans bs3;have zp0:=(hb1.cell (p:=⟨w.heap.size,0,none⟩) hp).trans bp0;have zp1:=(hb1.cell (p:=⟨w.heap.size,1,none⟩) hp).trans bp1))
   go_ret
   exact⟨ret_bool (by rw [HP.out,E1.out,decide_eq_true E2.out,E3.out];simp only [Bool.true_and,Bool.false_and]),hbw1⟩
  by_cases c2:s.clock > 200
  ·have E3:=Lib.hid (show inR s.clock 0 200=false from inR_gt c2)
   go_enter Tryz.func46,Tryz.ntmps46
   go_wp2_with (first | (go_at_call 81;refine(implProgOk_calls p P Q cp cq _ S (hP.belowAll (alB2 w _ _)) (hQ.belowAll (alB2 w _ _))).mono ?_;rintro e w1 ⟨rfl,hb1⟩;rw [← HWW.out] at hb1;rw [E1.out];have hbw1:Below w.heap.size w w1:=below_then hbW hbW.size hb1;have zs0:=(hb1.cell (p:=⟨w.heap.size+1,0,none⟩) hs).trans bs0;have zs1:=(hb1.cell (p:=⟨w.heap.size+1,1,none⟩) hs).trans bs1;have zs2:=(hb1.cell (p:=⟨w.heap.size+1,2,none⟩) hs).trans bs2;have zs3:=(hb1.cell (p:=⟨w.heap.size+1,3,none⟩) hs).trans bs3;have zp0:=(hb1.cell (p:=⟨w.heap.size,0,none⟩) hp).trans bp0;have zp1:=(hb1.cell (p:=⟨w.heap.size,1,none⟩) hp).trans bp1))
   go_ret
   exact⟨ret_bool (by rw [HP.out,E1.out,decide_eq_true E2.out,E3.out];simp only [Bool.true_and,Bool.false_and]),hbw1⟩
  have E3:=Lib.hid (show inR s.clock 0 200=true from inR_in (by omega) (by omega))
  cases ec:cellsOkI s with
  | false =>
   have EC:=Lib.hid ec
   clear ec
   go_enter Tryz.func46,Tryz.ntmps46
   go_wp2_with (first | (go_at_call 81;refine(implProgOk_calls p P Q cp cq _ S (hP.belowAll (alB2 w _ _)) (hQ.belowAll (alB2 w _ _))).mono ?_;rintro e w1 ⟨rfl,hb1⟩;rw [← HWW.out] at hb1;rw [E1.out];have hbw1:Below w.heap.size w w1:=below_then hbW hbW.size hb1;have zs0:=(hb1.cell (p:=⟨w.heap.size+1,0,none⟩) hs).trans bs0;have zs1:=(hb1.cell (p:=⟨w.heap.size+1,1,none⟩) hs).trans bs1;have zs2:=(hb1.cell (p:=⟨w.heap.size+1,2,none⟩) hs).trans bs2;have zs3:=(hb1.cell (p:=⟨w.heap.size+1,3,none⟩) hs).trans bs3;have zp0:=(hb1.cell (p:=⟨w.heap.size,0,none⟩) hp).trans bp0;have zp1:=(hb1.cell (p:=⟨w.heap.size,1,none⟩) hp).trans bp1) | (go_at_call 82;refine(cellsOkI_calls s A B C ca cb cc _ S (hC.belowAll hbw1)).mono ?_;rintro e w2 ⟨rfl,hb2⟩;rw [EC.out];have hbw2:Below w.heap.size w w2:=below_then hbw1 hbw1.size hb2;have hbW2:Below W.heap.size W w2:=below_then hb1 hb1.size hb2;have ys0:=(hbW2.cell (p:=⟨w.heap.size+1,0,none⟩) hs).trans bs0;have ys1:=(hbW2.cell (p:=⟨w.heap.size+1,1,none⟩) hs).trans bs1;have ys2:=(hbW2.cell (p:=⟨w.heap.size+1,2,none⟩) hs).trans bs2;have ys3:=(hbW2.cell (p:=⟨w.heap.size+1,3,none⟩) hs).trans bs3;have yp0:=(hbW2.cell (p:=⟨w.heap.size,0,none⟩) hp).trans bp0;have yp1:=(hbW2.cell (p:=⟨w.heap.size,1,none⟩) hp).trans bp1))
   go_ret
   exact⟨ret_bool (by rw [HP.out,E1.out,decide_eq_true E2.out,E3.out,EC.out];simp only [Bool.true_and,Bool.false_and]),hbw2⟩
  | true =>
   have EC:=Lib.hid ec
   clear ec
   by_cases n1:(s.tasks.length:Int)<1
   ·have E4:=Lib.hid (show inR s.tasks.length 1 7=false from inR_lt n1)
    go_enter Tryz.func46,Tryz.ntmps46
    go_wp2_with (first | (go_at_call 81;refine(implProgOk_calls p P Q cp cq _ S (hP.belowAll (alB2 w _ _)) (hQ.belowAll (alB2 w _ _))).mono ?_;rintro e w1 ⟨rfl,hb1⟩;rw [← HWW.out] at hb1;rw [E1.out];have hbw1:Below w.heap.size w w1:=below_then hbW hbW.size hb1;have zs0:=(hb1.cell (p:=⟨w.heap.size+1,0,none⟩) hs).trans bs0;have zs1:=(hb1.cell (p:=⟨w.heap.size+1,1,none⟩) hs).trans bs1;have zs2:=(hb1.cell (p:=⟨w.heap.size+1,2,none⟩) hs).trans bs2;have zs3:=(hb1.cell (p:=⟨w.heap.size+1,3,none⟩) hs).trans bs3;have zp0:=(hb1.cell (p:=⟨w.heap.size,0,none⟩) hp).trans bp0;have zp1:=(hb1.cell (p:=⟨w.heap.size,1,none⟩) hp).trans bp1) | (go_at_call 82;refine(cellsOkI_calls s A B C ca cb cc _ S (hC.belowAll hbw1)).mono ?_;rintro e w2 ⟨rfl,hb2⟩;rw [EC.out];have hbw2:Below w.heap.size w w2:=below_then hbw1 hbw1.size hb2;have hbW2:Below W.heap.size W w2:=below_then hb1 hb1.size hb2;have ys0:=(hbW2.cell (p:=⟨w.heap.size+1,0,none⟩) hs).trans bs0;have ys1:=(hbW2.cell (p:=⟨w.heap.size+1,1,none⟩) hs).trans bs1;have ys2:=(hbW2.cell (p:=⟨w.heap.size+1,2,none⟩) hs).trans bs2;have ys3:=(hbW2.cell (p:=⟨w.heap.size+1,3,none⟩) hs).trans bs3;have yp0:=(hbW2.cell (p:=⟨w.heap.size,0,none⟩) hp).trans bp0;have yp1:=(hbW2.cell (p:=⟨w.heap.size,1,none⟩) hp).trans bp1))
    go_ret
    exact⟨ret_bool (by rw [HP.out,E1.out,decide_eq_true E2.out,E3.out,EC.out,E4.out];simp only [Bool.true_and,Bool.false_and]),hbw2⟩
   by_cases n2:(s.tasks.length:Int) > 7
   ·have E4:=Lib.hid (show inR s.tasks.length 1 7=false from inR_gt n2)
    go_enter Tryz.func46,Tryz.ntmps46
    go_wp2_with (first | (go_at_call 81;refine(implProgOk_calls p P Q cp cq _ S (hP.belowAll (alB2 w _ _)) (hQ.belowAll (alB2 w _ _))).mono ?_;rintro e w1 ⟨rfl,hb1⟩;rw [← HWW.out] at hb1;rw [E1.out];have hbw1:Below w.heap.size w w1:=below_then hbW hbW.size hb1;have zs0:=(hb1.cell (p:=⟨w.heap.size+1,0,none⟩) hs).trans bs0;have zs1:=(hb1.cell (p:=⟨w.heap.size+1,1,none⟩) hs).trans bs1;have zs2:=(hb1.cell (p:=⟨w.heap.size+1,2,none⟩) hs).trans bs2;have zs3:=(hb1.cell (p:=⟨w.heap.size+1,3,none⟩) hs).trans bs3;have zp0:=(hb1.cell (p:=⟨w.heap.size,0,none⟩) hp).trans bp0;have zp1:=(hb1.cell (p:=⟨w.heap.size,1,none⟩) hp).trans bp1) | (go_at_call 82;refine(cellsOkI_calls s A B C ca cb cc _ S (hC.belowAll hbw1)).mono ?_;rintro e w2 ⟨rfl,hb2⟩;rw [EC.out];have hbw2:Below w.heap.size w w2:=below_then hbw1 hbw1.size hb2;have hbW2:Below W.heap.size W w2:=below_then hb1 hb1.size hb2;have ys0:=(hbW2.cell (p:=⟨w.heap.size+1,0,none⟩) hs).trans bs0;have ys1:=(hbW2.cell (p:=⟨w.heap.size+1,1,none⟩) hs).trans bs1;have ys2:=(hbW2.cell (p:=⟨w.heap.size+1,2,none⟩) hs).trans bs2;have ys3:=(hbW2.cell (p:=⟨w.heap.size+1,3,none⟩) hs).trans bs3;have yp0:=(hbW2.cell (p:=⟨w.heap.size,0,none⟩) hp).trans bp0;have yp1:=(hbW2.cell (p:=⟨w.heap.size,1,none⟩) hp).trans bp1))
    go_ret
    exact⟨ret_bool (by rw [HP.out,E1.out,decide_eq_true E2.out,E3.out,EC.out,E4.out];simp only [Bool.true_and,Bool.false_and]),hbw2⟩
   have hHP:Hid (sysOkI p s=(s.tasks.all (fun t=>formOkI p s t && stageOkI p s t) && ((List.range s.tasks.length).all (fun i=>upOk s i && wayOkI p s i) && (locksOkI s && logOkI p s)))):=Lib.hid (by rw [HP.out,E1.out,decide_eq_true E2.out,E3.out,EC.out,show inR s.tasks.length 1 7=true from inR_in (by omega) (by omega)];simp only [Bool.true_and])
   go_enter Tryz.func46,Tryz.ntmps46
   go_wp2_with (first | (go_at_call 81;refine(implProgOk_calls p P Q cp cq _ S (hP.belowAll (alB2 w _ _)) (hQ.belowAll (alB2 w _ _))).mono ?_;rintro e w1 ⟨rfl,hb1⟩;rw [← HWW.out] at hb1;rw [E1.out];have hbw1:Below w.heap.size w w1:=below_then hbW hbW.size hb1;have zs0:=(hb1.cell (p:=⟨w.heap.size+1,0,none⟩) hs).trans bs0;have zs1:=(hb1.cell (p:=⟨w.heap.size+1,1,none⟩) hs).trans bs1;have zs2:=(hb1.cell (p:=⟨w.heap.size+1,2,none⟩) hs).trans bs2;have zs3:=(hb1.cell (p:=⟨w.heap.size+1,3,none⟩) hs).trans bs3;have zp0:=(hb1.cell (p:=⟨w.heap.size,0,none⟩) hp).trans bp0;have zp1:=(hb1.cell (p:=⟨w.heap.size,1,none⟩) hp).trans bp1) | (go_at_call 82;refine(cellsOkI_calls s A B C ca cb cc _ S (hC.belowAll hbw1)).mono ?_;rintro e w2 ⟨rfl,hb2⟩;rw [EC.out];have hbw2:Below w.heap.size w w2:=below_then hbw1 hbw1.size hb2;have hbW2:Below W.heap.size W w2:=below_then hb1 hb1.size hb2;have ys0:=(hbW2.cell (p:=⟨w.heap.size+1,0,none⟩) hs).trans bs0;have ys1:=(hbW2.cell (p:=⟨w.heap.size+1,1,none⟩) hs).trans bs1;have ys2:=(hbW2.cell (p:=⟨w.heap.size+1,2,none⟩) hs).trans bs2;have ys3:=(hbW2.cell (p:=⟨w.heap.size+1,3,none⟩) hs).trans bs3;have yp0:=(hbW2.cell (p:=⟨w.heap.size,0,none⟩) hp).trans bp0;have yp1:=(hbW2.cell (p:=⟨w.heap.size,1,none⟩) hp).trans bp1))
   clear zs0 zs1 zs2 zs3 zp0 zp1 ys0 ys1 ys2 ys3 yp0 yp1
   go_loopw [6,48] (fun _ c wr=>∃ k:Nat,k≤s.tasks.length∧c=.int .i64 k∧Hid ((s.tasks.take k).all (fun t=>formOkI p s t && stageOkI p s t)=true)∧Below W.heap.size W wr) (fun _ c _=>s.tasks.length-(intOf c).toNat)
   case atStart=>exact⟨0,Nat.zero_le _,rfl,by simp [Hid],hbW2⟩
   case round =>
    obtain⟨i,hi,rfl,HA,hbr⟩:=hrel
    have zs0:=(hbr.cell (p:=⟨w.heap.size+1,0,none⟩) hs).trans bs0;have zs1:=(hbr.cell (p:=⟨w.heap.size+1,1,none⟩) hs).trans bs1;have zs2:=(hbr.cell (p:=⟨w.heap.size+1,2,none⟩) hs).trans bs2;have zs3:=(hbr.cell (p:=⟨w.heap.size+1,3,none⟩) hs).trans bs3;have zp0:=(hbr.cell (p:=⟨w.heap.size,0,none⟩) hp).trans bp0;have zp1:=(hbr.cell (p:=⟨w.heap.size,1,none⟩) hp).trans bp1
    obtain⟨wo,rfl⟩:∃ wo:World,wo=wr:=⟨_,rfl⟩
    have hbo:Below w.heap.size w wo:=below_then hbW hbW.size hbr
    by_cases hlt:i<s.tasks.length
    ·have x1:(i:Int)<s.tasks.length:=by omega
     obtain⟨ad,R,O,D,U,cr,co,cd,cu,rfl,hl,hrows,hat⟩:=at_task (hT.belowAll hbo) hlt
     obtain⟨k0,k1,k2,k3,k4,k5,k6,k7,k8,k9,k10,k11,k12⟩:=hat
     have hsw:w.heap.size+1<wo.heap.size:=Nat.lt_of_lt_of_le hs hbr.size
     have hpw:w.heap.size<wo.heap.size:=Nat.lt_of_lt_of_le hp hbr.size
     have hmr:s.tasks[i].reads.length≤9223372036854775807:=by obtain⟨_,_,_,_,_,_,h,_⟩:=hrows;exact h.1
     have hmu:s.tasks[i].puts.length≤9223372036854775807:=by obtain⟨_,_,_,_,_,_,_,h⟩:=hrows;exact h.1
     have hbo1:=fun o=>below_then hbo hbo.size (alB wo o)
     have zts0:=fun o=>((alB wo o).cell (p:=⟨w.heap.size+1,0,none⟩) hsw).trans zs0
     have zts1:=fun o=>((alB wo o).cell (p:=⟨w.heap.size+1,1,none⟩) hsw).trans zs1
     have zts2:=fun o=>((alB wo o).cell (p:=⟨w.heap.size+1,2,none⟩) hsw).trans zs2
     have zts3:=fun o=>((alB wo o).cell (p:=⟨w.heap.size+1,3,none⟩) hsw).trans zs3
     have ztp0:=fun o=>((alB wo o).cell (p:=⟨w.heap.size,0,none⟩) hpw).trans zp0
     have ztp1:=fun o=>((alB wo o).cell (p:=⟨w.heap.size,1,none⟩) hpw).trans zp1
     have en0:∀ V,V=wo.alloc (Obj.cells #[.int .i64 s.tasks[i].body,.int .i64 s.tasks[i].pc,.int .i64 s.tasks[i].up,.slice R s.tasks[i].regs.length cr,.int .i64 s.tasks[i].way,.int .i64 s.tasks[i].stage,.int .i64 s.tasks[i].pos,.int .i64 s.tasks[i].since,.slice O s.tasks[i].old.length co,.slice D s.tasks[i].reads.length cd,.slice U s.tasks[i].puts.length cu,.int .i64 s.tasks[i].whn,.int .i64 s.tasks[i].frm] 118)→V.cell? ⟨wo.heap.size,0,none⟩=some (.int .i64 s.tasks[i].body):=by intro V h;rw [h];simp [go_sem]
     have en1:∀ V,V=wo.alloc (Obj.cells #[.int .i64 s.tasks[i].body,.int .i64 s.tasks[i].pc,.int .i64 s.tasks[i].up,.slice R s.tasks[i].regs.length cr,.int .i64 s.tasks[i].way,.int .i64 s.tasks[i].stage,.int .i64 s.tasks[i].pos,.int .i64 s.tasks[i].since,.slice O s.tasks[i].old.length co,.slice D s.tasks[i].reads.length cd,.slice U s.tasks[i].puts.length cu,.int .i64 s.tasks[i].whn,.int .i64 s.tasks[i].frm] 118)→V.cell? ⟨wo.heap.size,1,none⟩=some (.int .i64 s.tasks[i].pc):=by intro V h;rw [h];simp [go_sem]
     have en2:∀ V,V=wo.alloc (Obj.cells #[.int .i64 s.tasks[i].body,.int .i64 s.tasks[i].pc,.int .i64 s.tasks[i].up,.slice R s.tasks[i].regs.length cr,.int .i64 s.tasks[i].way,.int .i64 s.tasks[i].stage,.int .i64 s.tasks[i].pos,.int .i64 s.tasks[i].since,.slice O s.tasks[i].old.length co,.slice D s.tasks[i].reads.length cd,.slice U s.tasks[i].puts.length cu,.int .i64 s.tasks[i].whn,.int .i64 s.tasks[i].frm] 118)→V.cell? ⟨wo.heap.size,2,none⟩=some (.int .i64 s.tasks[i].up):=by intro V h;rw [h];simp [go_sem]
     have en3:∀ V,V=wo.alloc (Obj.cells #[.int .i64 s.tasks[i].body,.int .i64 s.tasks[i].pc,.int .i64 s.tasks[i].up,.slice R s.tasks[i].regs.length cr,.int .i64 s.tasks[i].way,.int .i64 s.tasks[i].stage,.int .i64 s.tasks[i].pos,.int .i64 s.tasks[i].since,.slice O s.tasks[i].old.length co,.slice D s.tasks[i].reads.length cd,.slice U s.tasks[i].puts.length cu,.int .i64 s.tasks[i].whn,.int .i64 s.tasks[i].frm] 118)→V.cell? ⟨wo.heap.size,3,none⟩=some (.slice R s.tasks[i].regs.length cr):=by intro V h;rw [h];simp [go_sem]
     have en4:∀ V,V=wo.alloc (Obj.cells #[.int .i64 s.tasks[i].body,.int .i64 s.tasks[i].pc,.int .i64 s.tasks[i].up,.slice R s.tasks[i].regs.length cr,.int .i64 s.tasks[i].way,.int .i64 s.tasks[i].stage,.int .i64 s.tasks[i].pos,.int .i64 s.tasks[i].since,.slice O s.tasks[i].old.length co,.slice D s.tasks[i].reads.length cd,.slice U s.tasks[i].puts.length cu,.int .i64 s.tasks[i].whn,.int .i64 s.tasks[i].frm] 118)→V.cell? ⟨wo.heap.size,4,none⟩=some (.int .i64 s.tasks[i].way):=by intro V h;rw [h];simp [go_sem]
     have en5:∀ V,V=wo.alloc (Obj.cells #[.int .i64 s.tasks[i].body,.int .i64 s.tasks[i].pc,.int .i64 s.tasks[i].up,.slice R s.tasks[i].regs.length cr,.int .i64 s.tasks[i].way,.int .i64 s.tasks[i].stage,.int .i64 s.tasks[i].pos,.int .i64 s.tasks[i].since,.slice O s.tasks[i].old.length co,.slice D s.tasks[i].reads.length cd,.slice U s.tasks[i].puts.length cu,.int .i64 s.tasks[i].whn,.int .i64 s.tasks[i].frm] 118)→V.cell? ⟨wo.heap.size,5,none⟩=some (.int .i64 s.tasks[i].stage):=by intro V h;rw [h];simp [go_sem]
     have en6:∀ V,V=wo.alloc (Obj.cells #[.int .i64 s.tasks[i].body,.int .i64 s.tasks[i].pc,.int .i64 s.tasks[i].up,.slice R s.tasks[i].regs.length cr,.int .i64 s.tasks[i].way,.int .i64 s.tasks[i].stage,.int .i64 s.tasks[i].pos,.int .i64 s.tasks[i].since,.slice O s.tasks[i].old.length co,.slice D s.tasks[i].reads.length cd,.slice U s.tasks[i].puts.length cu,.int .i64 s.tasks[i].whn,.int .i64 s.tasks[i].frm] 118)→V.cell? ⟨wo.heap.size,6,none⟩=some (.int .i64 s.tasks[i].pos):=by intro V h;rw [h];simp [go_sem]
     have en7:∀ V,V=wo.alloc (Obj.cells #[.int .i64 s.tasks[i].body,.int .i64 s.tasks[i].pc,.int .i64 s.tasks[i].up,.slice R s.tasks[i].regs.length cr,.int .i64 s.tasks[i].way,.int .i64 s.tasks[i].stage,.int .i64 s.tasks[i].pos,.int .i64 s.tasks[i].since,.slice O s.tasks[i].old.length co,.slice D s.tasks[i].reads.length cd,.slice U s.tasks[i].puts.length cu,.int .i64 s.tasks[i].whn,.int .i64 s.tasks[i].frm] 118)→V.cell? ⟨wo.heap.size,7,none⟩=some (.int .i64 s.tasks[i].since):=by intro V h;rw [h];simp [go_sem]
     have en8:∀ V,V=wo.alloc (Obj.cells #[.int .i64 s.tasks[i].body,.int .i64 s.tasks[i].pc,.int .i64 s.tasks[i].up,.slice R s.tasks[i].regs.length cr,.int .i64 s.tasks[i].way,.int .i64 s.tasks[i].stage,.int .i64 s.tasks[i].pos,.int .i64 s.tasks[i].since,.slice O s.tasks[i].old.length co,.slice D s.tasks[i].reads.length cd,.slice U s.tasks[i].puts.length cu,.int .i64 s.tasks[i].whn,.int .i64 s.tasks[i].frm] 118)→V.cell? ⟨wo.heap.size,8,none⟩=some (.slice O s.tasks[i].old.length co):=by intro V h;rw [h];simp [go_sem]
     have en9:∀ V,V=wo.alloc (Obj.cells #[.int .i64 s.tasks[i].body,.int .i64 s.tasks[i].pc,.int .i64 s.tasks[i].up,.slice R s.tasks[i].regs.length cr,.int .i64 s.tasks[i].way,.int .i64 s.tasks[i].stage,.int .i64 s.tasks[i].pos,.int .i64 s.tasks[i].since,.slice O s.tasks[i].old.length co,.slice D s.tasks[i].reads.length cd,.slice U s.tasks[i].puts.length cu,.int .i64 s.tasks[i].whn,.int .i64 s.tasks[i].frm] 118)→V.cell? ⟨wo.heap.size,9,none⟩=some (.slice D s.tasks[i].reads.length cd):=by intro V h;rw [h];simp [go_sem]
     have en10:∀ V,V=wo.alloc (Obj.cells #[.int .i64 s.tasks[i].body,.int .i64 s.tasks[i].pc,.int .i64 s.tasks[i].up,.slice R s.tasks[i].regs.length cr,.int .i64 s.tasks[i].way,.int .i64 s.tasks[i].stage,.int .i64 s.tasks[i].pos,.int .i64 s.tasks[i].since,.slice O s.tasks[i].old.length co,.slice D s.tasks[i].reads.length cd,.slice U s.tasks[i].puts.length cu,.int .i64 s.tasks[i].whn,.int .i64 s.tasks[i].frm] 118)→V.cell? ⟨wo.heap.size,10,none⟩=some (.slice U s.tasks[i].puts.length cu):=by intro V h;rw [h];simp [go_sem]
     have en11:∀ V,V=wo.alloc (Obj.cells #[.int .i64 s.tasks[i].body,.int .i64 s.tasks[i].pc,.int .i64 s.tasks[i].up,.slice R s.tasks[i].regs.length cr,.int .i64 s.tasks[i].way,.int .i64 s.tasks[i].stage,.int .i64 s.tasks[i].pos,.int .i64 s.tasks[i].since,.slice O s.tasks[i].old.length co,.slice D s.tasks[i].reads.length cd,.slice U s.tasks[i].puts.length cu,.int .i64 s.tasks[i].whn,.int .i64 s.tasks[i].frm] 118)→V.cell? ⟨wo.heap.size,11,none⟩=some (.int .i64 s.tasks[i].whn):=by intro V h;rw [h];simp [go_sem]
     have en12:∀ V,V=wo.alloc (Obj.cells #[.int .i64 s.tasks[i].body,.int .i64 s.tasks[i].pc,.int .i64 s.tasks[i].up,.slice R s.tasks[i].regs.length cr,.int .i64 s.tasks[i].way,.int .i64 s.tasks[i].stage,.int .i64 s.tasks[i].pos,.int .i64 s.tasks[i].since,.slice O s.tasks[i].old.length co,.slice D s.tasks[i].reads.length cd,.slice U s.tasks[i].puts.length cu,.int .i64 s.tasks[i].whn,.int .i64 s.tasks[i].frm] 118)→V.cell? ⟨wo.heap.size,12,none⟩=some (.int .i64 s.tasks[i].frm):=by intro V h;rw [h];simp [go_sem]
     cases e5:formOkI p s s.tasks[i] with
     | false =>
      have E5:=Lib.hid e5
      clear e5
      go_wp2_with (first | (go_at_call 83;refine(formOk_calls p s s.tasks[i] P Q A (some ad) C R O D U cp cq ca cb cc cr co cd cu _ S (hQ.belowAll (hbo1 _)) (hrows.below (alB wo _)) (by omega) (by omega)).mono ?_;rintro e w3 ⟨rfl,hb3⟩;rw [E5.out];have q3:Below wo.heap.size wo w3:=below_then (alB wo _) (by simp) hb3;have q3w:Below w.heap.size w w3:=below_then hbo hbo.size q3;have qq3:Below W.heap.size W w3:=below_then hbr hbr.size q3;have ys0:=(qq3.cell (p:=⟨w.heap.size+1,0,none⟩) hs).trans bs0;have ys1:=(qq3.cell (p:=⟨w.heap.size+1,1,none⟩) hs).trans bs1;have ys2:=(qq3.cell (p:=⟨w.heap.size+1,2,none⟩) hs).trans bs2;have ys3:=(qq3.cell (p:=⟨w.heap.size+1,3,none⟩) hs).trans bs3;have yp0:=(qq3.cell (p:=⟨w.heap.size,0,none⟩) hp).trans bp0;have yp1:=(qq3.cell (p:=⟨w.heap.size,1,none⟩) hp).trans bp1;have f0:=(hb3.cell (p:=⟨wo.heap.size,0,none⟩) (by simp)).trans (en0 _ rfl);have f1:=(hb3.cell (p:=⟨wo.heap.size,1,none⟩) (by simp)).trans (en1 _ rfl);have f2:=(hb3.cell (p:=⟨wo.heap.size,2,none⟩) (by simp)).trans (en2 _ rfl);have f3:=(hb3.cell (p:=⟨wo.heap.size,3,none⟩) (by simp)).trans (en3 _ rfl);have f4:=(hb3.cell (p:=⟨wo.heap.size,4,none⟩) (by simp)).trans (en4 _ rfl);have f5:=(hb3.cell (p:=⟨wo.heap.size,5,none⟩) (by simp)).trans (en5 _ rfl);have f6:=(hb3.cell (p:=⟨wo.heap.size,6,none⟩) (by simp)).trans (en6 _ rfl);have f7:=(hb3.cell (p:=⟨wo.heap.size,7,none⟩) (by simp)).trans (en7 _ rfl);have f8:=(hb3.cell (p:=⟨wo.heap.size,8,none⟩) (by simp)).trans (en8 _ rfl);have f9:=(hb3.cell (p:=⟨wo.heap.size,9,none⟩) (by simp)).trans (en9 _ rfl);have f10:=(hb3.cell (p:=⟨wo.heap.size,10,none⟩) (by simp)).trans (en10 _ rfl);have f11:=(hb3.cell (p:=⟨wo.heap.size,11,none⟩) (by simp)).trans (en11 _ rfl);have f12:=(hb3.cell (p:=⟨wo.heap.size,12,none⟩) (by simp)).trans (en12 _ rfl)))
      go_ret
      exact⟨ret_bool (by rw [hHP.out,all_false_of (fun t=>formOkI p s t && stageOkI p s t) _ i hlt (by rw [E5.out];rfl)];rfl),q3w⟩
     | true =>
      have hpos:=formOkI_at e5
      have E5:=Lib.hid e5
      clear e5
      cases e6:stageOkI p s s.tasks[i] with
      | false =>
       have E6:=Lib.hid e6
       clear e6
       go_wp2_with (first | (go_at_call 83;refine(formOk_calls p s s.tasks[i] P Q A (some ad) C R O D U cp cq ca cb cc cr co cd cu _ S (hQ.belowAll (hbo1 _)) (hrows.below (alB wo _)) (by omega) (by omega)).mono ?_;rintro e w3 ⟨rfl,hb3⟩;rw [E5.out];have q3:Below wo.heap.size wo w3:=below_then (alB wo _) (by simp) hb3;have q3w:Below w.heap.size w w3:=below_then hbo hbo.size q3;have qq3:Below W.heap.size W w3:=below_then hbr hbr.size q3;have ys0:=(qq3.cell (p:=⟨w.heap.size+1,0,none⟩) hs).trans bs0;have ys1:=(qq3.cell (p:=⟨w.heap.size+1,1,none⟩) hs).trans bs1;have ys2:=(qq3.cell (p:=⟨w.heap.size+1,2,none⟩) hs).trans bs2;have ys3:=(qq3.cell (p:=⟨w.heap.size+1,3,none⟩) hs).trans bs3;have yp0:=(qq3.cell (p:=⟨w.heap.size,0,none⟩) hp).trans bp0;have yp1:=(qq3.cell (p:=⟨w.heap.size,1,none⟩) hp).trans bp1;have f0:=(hb3.cell (p:=⟨wo.heap.size,0,none⟩) (by simp)).trans (en0 _ rfl);have f1:=(hb3.cell (p:=⟨wo.heap.size,1,none⟩) (by simp)).trans (en1 _ rfl);have f2:=(hb3.cell (p:=⟨wo.heap.size,2,none⟩) (by simp)).trans (en2 _ rfl);have f3:=(hb3.cell (p:=⟨wo.heap.size,3,none⟩) (by simp)).trans (en3 _ rfl);have f4:=(hb3.cell (p:=⟨wo.heap.size,4,none⟩) (by simp)).trans (en4 _ rfl);have f5:=(hb3.cell (p:=⟨wo.heap.size,5,none⟩) (by simp)).trans (en5 _ rfl);have f6:=(hb3.cell (p:=⟨wo.heap.size,6,none⟩) (by simp)).trans (en6 _ rfl);have f7:=(hb3.cell (p:=⟨wo.heap.size,7,none⟩) (by simp)).trans (en7 _ rfl);have f8:=(hb3.cell (p:=⟨wo.heap.size,8,none⟩) (by simp)).trans (en8 _ rfl);have f9:=(hb3.cell (p:=⟨wo.heap.size,9,none⟩) (by simp)).trans (en9 _ rfl);have f10:=(hb3.cell (p:=⟨wo.heap.size,10,none⟩) (by simp)).trans (en10 _ rfl);have f11:=(hb3.cell (p:=⟨wo.heap.size,11,none⟩) (by simp)).trans (en11 _ rfl);have f12:=(hb3.cell (p:=⟨wo.heap.size,12,none⟩) (by simp)).trans (en12 _ rfl)) | (go_at_call 84;refine(stageOk_calls p s s.tasks[i] P Q A (some ad) C R O D U cp cq ca cb cc cr co cd cu _ S (hQ.belowAll q3w) (by omega) (by omega) hpos.1 hpos.2 hmr hmu).mono ?_;rintro e w4 ⟨rfl,hb4⟩;rw [E6.out];have q4w:Below w.heap.size w w4:=below_then q3w q3w.size hb4;have qq4:Below W.heap.size W w4:=below_then qq3 qq3.size hb4))
       go_ret
       exact⟨ret_bool (by rw [hHP.out,all_false_of (fun t=>formOkI p s t && stageOkI p s t) _ i hlt (by rw [E5.out,E6.out];rfl)];rfl),q4w⟩
      | true =>
       have E6:=Lib.hid e6
       clear e6
       go_wp2_with (first | (go_at_call 83;refine(formOk_calls p s s.tasks[i] P Q A (some ad) C R O D U cp cq ca cb cc cr co cd cu _ S (hQ.belowAll (hbo1 _)) (hrows.below (alB wo _)) (by omega) (by omega)).mono ?_;rintro e w3 ⟨rfl,hb3⟩;rw [E5.out];have q3:Below wo.heap.size wo w3:=below_then (alB wo _) (by simp) hb3;have q3w:Below w.heap.size w w3:=below_then hbo hbo.size q3;have qq3:Below W.heap.size W w3:=below_then hbr hbr.size q3;have ys0:=(qq3.cell (p:=⟨w.heap.size+1,0,none⟩) hs).trans bs0;have ys1:=(qq3.cell (p:=⟨w.heap.size+1,1,none⟩) hs).trans bs1;have ys2:=(qq3.cell (p:=⟨w.heap.size+1,2,none⟩) hs).trans bs2;have ys3:=(qq3.cell (p:=⟨w.heap.size+1,3,none⟩) hs).trans bs3;have yp0:=(qq3.cell (p:=⟨w.heap.size,0,none⟩) hp).trans bp0;have yp1:=(qq3.cell (p:=⟨w.heap.size,1,none⟩) hp).trans bp1;have f0:=(hb3.cell (p:=⟨wo.heap.size,0,none⟩) (by simp)).trans (en0 _ rfl);have f1:=(hb3.cell (p:=⟨wo.heap.size,1,none⟩) (by simp)).trans (en1 _ rfl);have f2:=(hb3.cell (p:=⟨wo.heap.size,2,none⟩) (by simp)).trans (en2 _ rfl);have f3:=(hb3.cell (p:=⟨wo.heap.size,3,none⟩) (by simp)).trans (en3 _ rfl);have f4:=(hb3.cell (p:=⟨wo.heap.size,4,none⟩) (by simp)).trans (en4 _ rfl);have f5:=(hb3.cell (p:=⟨wo.heap.size,5,none⟩) (by simp)).trans (en5 _ rfl);have f6:=(hb3.cell (p:=⟨wo.heap.size,6,none⟩) (by simp)).trans (en6 _ rfl);have f7:=(hb3.cell (p:=⟨wo.heap.size,7,none⟩) (by simp)).trans (en7 _ rfl);have f8:=(hb3.cell (p:=⟨wo.heap.size,8,none⟩) (by simp)).trans (en8 _ rfl);have f9:=(hb3.cell (p:=⟨wo.heap.size,9,none⟩) (by simp)).trans (en9 _ rfl);have f10:=(hb3.cell (p:=⟨wo.heap.size,10,none⟩) (by simp)).trans (en10 _ rfl);have f11:=(hb3.cell (p:=⟨wo.heap.size,11,none⟩) (by simp)).trans (en11 _ rfl);have f12:=(hb3.cell (p:=⟨wo.heap.size,12,none⟩) (by simp)).trans (en12 _ rfl)) | (go_at_call 84;refine(stageOk_calls p s s.tasks[i] P Q A (some ad) C R O D U cp cq ca cb cc cr co cd cu _ S (hQ.belowAll q3w) (by omega) (by omega) hpos.1 hpos.2 hmr hmu).mono ?_;rintro e w4 ⟨rfl,hb4⟩;rw [E6.out];have q4w:Below w.heap.size w w4:=below_then q3w q3w.size hb4;have qq4:Below W.heap.size W w4:=below_then qq3 qq3.size hb4))
       go_roundw
       case rel=>exact⟨i+1,by omega,by go_num,by unfold Hid;rw [all_take_snoc _ _ _ hlt,HA.out,E5.out,E6.out];rfl,qq4⟩
       case measure=>simp [intOf];omega
    ·have hall:s.tasks.all (fun t=>formOkI p s t && stageOkI p s t)=true:=by have:=HA.out;rw [show i=s.tasks.length by omega,List.take_length] at this;exact this
     have HALL:=Lib.hid hall
     have hboth:∀ k,k<s.tasks.length→formOkI p s (s.t k)=true∧stageOkI p s (s.t k)=true:=fun k hk=>by have:=allTasks.1 hall k hk;simpa using this
     have hbody:∀ k,k<s.tasks.length→0≤(s.t k).body∧(s.t k).body<p.bodies.length:=fun k hk=>(formOkI_at (hboth k hk).1).1
     have hpc:∀ k,k<s.tasks.length→0≤(s.t k).pc∧(s.t k).pc≤(p.acts (s.t k).body).length:=fun k hk=>(formOkI_at (hboth k hk).1).2
     have hPl:Placed s:=fun k hk=>placed_of (hboth k hk).1 (hboth k hk).2
     have hn:s.tasks.length≤1000:=by omega
     clear hall hboth
     go_wp2
     clear zs0 zs1 zs2 zs3 zp0 zp1
     go_loopw [7,68] (fun _ c wr=>∃ k:Nat,k≤s.tasks.length∧c=.int .i64 k∧Hid ((List.range k).all (fun i=>upOk s i && wayOkI p s i)=true)∧Below W.heap.size W wr) (fun _ c _=>s.tasks.length-(intOf c).toNat)
     case atStart=>exact⟨0,Nat.zero_le _,rfl,by simp [Hid],hbr⟩
     case round =>
      obtain⟨j,hj,rfl,HB,hbr2⟩:=hrel
      have zs0:=(hbr2.cell (p:=⟨w.heap.size+1,0,none⟩) hs).trans bs0;have zs1:=(hbr2.cell (p:=⟨w.heap.size+1,1,none⟩) hs).trans bs1;have zs2:=(hbr2.cell (p:=⟨w.heap.size+1,2,none⟩) hs).trans bs2;have zs3:=(hbr2.cell (p:=⟨w.heap.size+1,3,none⟩) hs).trans bs3;have zp0:=(hbr2.cell (p:=⟨w.heap.size,0,none⟩) hp).trans bp0;have zp1:=(hbr2.cell (p:=⟨w.heap.size,1,none⟩) hp).trans bp1
      have hb2w:Below w.heap.size w wr:=below_then hbW hbW.size hbr2
      by_cases hltj:j<s.tasks.length
      ·have y1:(j:Int)<s.tasks.length:=by omega
       cases e7:upOk s j with
       | false =>
        have E7:=Lib.hid e7
        clear e7
        go_wp2_with (first | (go_at_call 85;refine(upOkI_calls s j A B C ca cb cc _ S (hT.belowAll hb2w) hltj).mono ?_;rintro e w5 ⟨rfl,hb5⟩;rw [E7.out];have q5w:Below w.heap.size w w5:=below_then hb2w hb2w.size hb5;have qq5:Below W.heap.size W w5:=below_then hbr2 hbr2.size hb5;have ys0:=(qq5.cell (p:=⟨w.heap.size+1,0,none⟩) hs).trans bs0;have ys1:=(qq5.cell (p:=⟨w.heap.size+1,1,none⟩) hs).trans bs1;have ys2:=(qq5.cell (p:=⟨w.heap.size+1,2,none⟩) hs).trans bs2;have ys3:=(qq5.cell (p:=⟨w.heap.size+1,3,none⟩) hs).trans bs3;have yp0:=(qq5.cell (p:=⟨w.heap.size,0,none⟩) hp).trans bp0;have yp1:=(qq5.cell (p:=⟨w.heap.size,1,none⟩) hp).trans bp1))
        go_ret
        exact⟨ret_bool (by rw [hHP.out,HALL.out,range_all_false (fun i=>upOk s i && wayOkI p s i) _ j hltj (by rw [E7.out];rfl)];rfl),q5w⟩
       | true =>
        have E7:=Lib.hid e7
        clear e7
        cases e8:wayOkI p s j with
        | false =>
         have E8:=Lib.hid e8
         clear e8
         go_wp2_with (first | (go_at_call 85;refine(upOkI_calls s j A B C ca cb cc _ S (hT.belowAll hb2w) hltj).mono ?_;rintro e w5 ⟨rfl,hb5⟩;rw [E7.out];have q5w:Below w.heap.size w w5:=below_then hb2w hb2w.size hb5;have qq5:Below W.heap.size W w5:=below_then hbr2 hbr2.size hb5;have ys0:=(qq5.cell (p:=⟨w.heap.size+1,0,none⟩) hs).trans bs0;have ys1:=(qq5.cell (p:=⟨w.heap.size+1,1,none⟩) hs).trans bs1;have ys2:=(qq5.cell (p:=⟨w.heap.size+1,2,none⟩) hs).trans bs2;have ys3:=(qq5.cell (p:=⟨w.heap.size+1,3,none⟩) hs).trans bs3;have yp0:=(qq5.cell (p:=⟨w.heap.size,0,none⟩) hp).trans bp0;have yp1:=(qq5.cell (p:=⟨w.heap.size,1,none⟩) hp).trans bp1) | (go_at_call 86;refine(wayOk_calls p s j P Q A B C cp cq ca cb cc _ S (hQ.belowAll q5w) (hT.belowAll q5w) hltj hn (hbody j hltj) (hpc j hltj)).mono ?_;rintro e w6 ⟨rfl,hb6⟩;rw [E8.out];have q6w:Below w.heap.size w w6:=below_then q5w q5w.size hb6;have qq6:Below W.heap.size W w6:=below_then qq5 qq5.size hb6))
         go_ret
         exact⟨ret_bool (by rw [hHP.out,HALL.out,range_all_false (fun i=>upOk s i && wayOkI p s i) _ j hltj (by rw [E7.out,E8.out];rfl)];rfl),q6w⟩
        | true =>
         have E8:=Lib.hid e8
         clear e8
         go_wp2_with (first | (go_at_call 85;refine(upOkI_calls s j A B C ca cb cc _ S (hT.belowAll hb2w) hltj).mono ?_;rintro e w5 ⟨rfl,hb5⟩;rw [E7.out];have q5w:Below w.heap.size w w5:=below_then hb2w hb2w.size hb5;have qq5:Below W.heap.size W w5:=below_then hbr2 hbr2.size hb5;have ys0:=(qq5.cell (p:=⟨w.heap.size+1,0,none⟩) hs).trans bs0;have ys1:=(qq5.cell (p:=⟨w.heap.size+1,1,none⟩) hs).trans bs1;have ys2:=(qq5.cell (p:=⟨w.heap.size+1,2,none⟩) hs).trans bs2;have ys3:=(qq5.cell (p:=⟨w.heap.size+1,3,none⟩) hs).trans bs3;have yp0:=(qq5.cell (p:=⟨w.heap.size,0,none⟩) hp).trans bp0;have yp1:=(qq5.cell (p:=⟨w.heap.size,1,none⟩) hp).trans bp1) | (go_at_call 86;refine(wayOk_calls p s j P Q A B C cp cq ca cb cc _ S (hQ.belowAll q5w) (hT.belowAll q5w) hltj hn (hbody j hltj) (hpc j hltj)).mono ?_;rintro e w6 ⟨rfl,hb6⟩;rw [E8.out];have q6w:Below w.heap.size w w6:=below_then q5w q5w.size hb6;have qq6:Below W.heap.size W w6:=below_then qq5 qq5.size hb6))
         go_roundw
         case rel=>exact⟨j+1,by omega,by go_num,by unfold Hid;rw [range_all_succ,HB.out,E7.out,E8.out];rfl,qq6⟩
         case measure=>simp [intOf];omega
      ·have HB2:Hid ((List.range s.tasks.length).all (fun i=>upOk s i && wayOkI p s i)=true):=Lib.hid (by have:=HB.out;rw [show j=s.tasks.length by omega] at this;exact this)
       cases e9:locksOkI s with
       | false =>
        have E9:=Lib.hid e9
        clear e9
        go_wp2_with (first | (go_at_call 87;refine(locksOk_calls s A B C ca cb cc _ S (hC.belowAll hb2w) (hT.belowAll hb2w) hPl hnc hn).mono ?_;rintro e w5 ⟨rfl,hb5⟩;rw [E9.out];have q5w:Below w.heap.size w w5:=below_then hb2w hb2w.size hb5;have qq5:Below W.heap.size W w5:=below_then hbr2 hbr2.size hb5;have ys0:=(qq5.cell (p:=⟨w.heap.size+1,0,none⟩) hs).trans bs0;have ys1:=(qq5.cell (p:=⟨w.heap.size+1,1,none⟩) hs).trans bs1;have ys2:=(qq5.cell (p:=⟨w.heap.size+1,2,none⟩) hs).trans bs2;have ys3:=(qq5.cell (p:=⟨w.heap.size+1,3,none⟩) hs).trans bs3;have yp0:=(qq5.cell (p:=⟨w.heap.size,0,none⟩) hp).trans bp0;have yp1:=(qq5.cell (p:=⟨w.heap.size,1,none⟩) hp).trans bp1))
        go_ret
        exact⟨ret_bool (by rw [hHP.out,HALL.out,HB2.out,E9.out];rfl),q5w⟩
       | true =>
        have E9:=Lib.hid e9
        clear e9
        go_wp2_with (first | (go_at_call 87;refine(locksOk_calls s A B C ca cb cc _ S (hC.belowAll hb2w) (hT.belowAll hb2w) hPl hnc hn).mono ?_;rintro e w5 ⟨rfl,hb5⟩;rw [E9.out];have q5w:Below w.heap.size w w5:=below_then hb2w hb2w.size hb5;have qq5:Below W.heap.size W w5:=below_then hbr2 hbr2.size hb5;have ys0:=(qq5.cell (p:=⟨w.heap.size+1,0,none⟩) hs).trans bs0;have ys1:=(qq5.cell (p:=⟨w.heap.size+1,1,none⟩) hs).trans bs1;have ys2:=(qq5.cell (p:=⟨w.heap.size+1,2,none⟩) hs).trans bs2;have ys3:=(qq5.cell (p:=⟨w.heap.size+1,3,none⟩) hs).trans bs3;have yp0:=(qq5.cell (p:=⟨w.heap.size,0,none⟩) hp).trans bp0;have yp1:=(qq5.cell (p:=⟨w.heap.size,1,none⟩) hp).trans bp1) | (go_at_call 88;refine(logOkI_calls p s P Q A B C cp cq ca cb cc _ S (hQ.belowAll q5w) (hT.belowAll q5w) (hL.belowAll q5w) hnc hbody).mono ?_;rintro e w6 ⟨rfl,hb6⟩;have q6w:Below w.heap.size w w6:=below_then q5w q5w.size hb6))
        go_ret
        exact⟨ret_bool (by rw [hHP.out,HALL.out,HB2.out,E9.out];rfl),q6w⟩
theorem implSysOk_calls (p:Prog)(s:Sys)(P Q A B C:Option Addr)(cp cq ca cb cc:Nat)(w:World)(S:Nat→Prop)(hP:Row Kd.int w S P p.cells)(hQ:Row (Kd.slice kAct) w S Q p.bodies)(hS:SysR w S s A B C) :
  Calls Tryz.prog 46 #[.agg #[.slice P p.cells.length cp,.slice Q p.bodies.length cq],.agg #[.slice A s.cells.length ca,.slice B s.tasks.length cb,.int .i64 s.clock,.slice C s.log.length cc]] w fun e w'=>e=.returned (.bool (sysOk p s))∧Below w.heap.size w w':=by
 rw [← sysOkI_eq]
 exact implSysOkI_calls p s P Q A B C cp cq ca cb cc w S hP hQ hS
end Go.Proofs.YtjacjafmimgfcaaGreat
