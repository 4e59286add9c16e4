/- The reference's look at a system: cells, and changes that were ended; all of it.; The reference's look at a system: changes that were ended; all of it. -/
import Derived.Test.YtjacjafmimgfcaaGreatWae
import Derived.Test.YtjacjafmimgfcaaGreatWaw
set_option maxHeartbeats 4000000
set_option maxRecDepth 100000
set_option linter.unusedVariables false
set_option linter.unusedSimpArgs false
namespace Go.Proofs.YtjacjafmimgfcaaGreat
open Go.RowKit
theorem cellOk_parts (s:Sys)(i:Nat)(hi:i<s.cells.length):cellOk s i=(inR s.cells[i].num 0 99 && (inR s.cells[i].time 0 s.clock && (inR s.cells[i].lock (-1) ((s.tasks.length:Int)-1) && (List.range s.tasks.length).all fun k=>decide (holds (s.t k) i=decide (s.cells[i].lock=k))))):=by
 unfold cellOk
 rw [sys_c hi]
 simp only [Bool.and_assoc]
theorem l12Cells_calls (s:Sys)(A B C:Option Addr)(ca cb cc:Nat)(w:World)(S:Nat→Prop)(hC:Row kCell w S A s.cells)(hT:Row kTask w S B s.tasks) :
  Calls Tryz.prog 69 #[.agg #[.slice A s.cells.length ca,.slice B s.tasks.length cb,.int .i64 s.clock,.slice C s.log.length cc]] w fun e w'=>e=.returned (.bool (cellsOk s))∧Below w.heap.size w w':=by
 have hmc:=hC.1
 have hmt:=hT.1
 have hbw:∀ o,Below w.heap.size w (w.alloc o):=fun o=>alB w o
 have hwr:IntKind.i64.wrap ((s.tasks.length:Int)-1)=(s.tasks.length:Int)-1:=IntWalk.i64_in _ (by omega)
 obtain⟨W,HW⟩:∃ W,W=w.alloc (Obj.cells #[.slice A s.cells.length ca,.slice B s.tasks.length cb,.int .i64 s.clock,.slice C s.log.length cc] 45):=⟨_,rfl⟩
 have hbW:Below w.heap.size w W:=by rw [HW];exact hbw _
 have hzW:W.heap.size=w.heap.size+1:=by rw [HW];simp
 have bs0:W.cell? ⟨w.heap.size,0,none⟩=some (.slice A s.cells.length ca):=by rw [HW];simp [go_sem]
 have bs1:W.cell? ⟨w.heap.size,1,none⟩=some (.slice B s.tasks.length cb):=by rw [HW];simp [go_sem]
 have bs2:W.cell? ⟨w.heap.size,2,none⟩=some (.int .i64 s.clock):=by rw [HW];simp [go_sem]
 have bs3:W.cell? ⟨w.heap.size,3,none⟩=some (.slice C s.log.length cc):=by rw [HW];simp [go_sem]
 have hs:w.heap.size<W.heap.size:=by omega
 have HZ:=Lib.hid hzW
 have HWW:=Lib.hid HW
 clear HW hzW hbw
 go_enter Tryz.func69,Tryz.ntmps69
 go_wp2
 rw [← HWW.out]
 go_loopw [3,4,5] (fun i _ _ wr=>∃ k:Nat,k≤s.cells.length∧i=.int .i64 k∧Hid ((List.range k).all (cellOk s)=true)∧Below W.heap.size W wr) (fun i _ _ _=>s.cells.length-(intOf i).toNat)
 case atStart=>exact⟨0,Nat.zero_le _,rfl,by simp [Hid],Below.refl _ _⟩
 case round =>
  obtain⟨i,hi,rfl,HA,hbr⟩:=hrel
  have zs0:=(hbr.cell (p:=⟨w.heap.size,0,none⟩) hs).trans bs0;have zs1:=(hbr.cell (p:=⟨w.heap.size,1,none⟩) hs).trans bs1;have zs2:=(hbr.cell (p:=⟨w.heap.size,2,none⟩) hs).trans bs2;have zs3:=(hbr.cell (p:=⟨w.heap.size,3,none⟩) hs).trans bs3
  by_cases hlt:i<s.cells.length
  ·obtain⟨wo,rfl⟩:∃ wo:World,wo=wr:=⟨_,rfl⟩
   have hbo:Below w.heap.size w wo:=below_then hbW hbW.size hbr
   obtain⟨ac,rfl,hlc,c0,c1,c2⟩:=at_cell (hC.belowAll hbo) hlt
   have x1:(i:Int)<s.cells.length:=by omega
   have x3:(0:Int)≤i:=by omega
   have HP:=Lib.hid (cellOk_parts s i hlt)
   have hbad:cellOk s i=false→cellsOk s=false:=fun h=>range_all_false _ _ i hlt h
   have HBAD:=Lib.hid hbad
   clear hbad
   have hsw:w.heap.size<wo.heap.size:=Nat.lt_of_lt_of_le hs hbr.size
   have zt0:=fun o=>((alB wo o).cell (p:=⟨w.heap.size,0,none⟩) hsw).trans zs0
   have zt1:=fun o=>((alB wo o).cell (p:=⟨w.heap.size,1,none⟩) hsw).trans zs1
   have zt2:=fun o=>((alB wo o).cell (p:=⟨w.heap.size,2,none⟩) hsw).trans zs2
   have hbo1:=fun o=>below_then hbo hbo.size (alB wo o)
   cases e1:inR s.cells[i].num 0 99 with
   | false =>
    have E1:=Lib.hid e1
    clear e1
    go_wp2_with (go_at_call 67;refine(l6In_calls _ _ _ _).mono ?_;rintro e w' ⟨rfl,rfl⟩;rw [E1.out])
    go_ret
    exact⟨ret_bool (HBAD.out (by rw [HP.out,E1.out];rfl)).symm,hbo1 _⟩
   | true =>
    have E1:=Lib.hid e1
    clear e1
    have tok:True:=trivial
    cases e2:inR s.cells[i].time 0 s.clock with
    | false =>
     have E2:=Lib.hid e2
     clear e2
     go_wp2_with (first | (go_at_call 67;have _t:=tok;refine(l6In_calls _ _ _ _).mono ?_;rintro e w' ⟨rfl,rfl⟩;rw [E1.out];clear tok) | (go_at_call 67;refine(l6In_calls _ _ _ _).mono ?_;rintro e w' ⟨rfl,rfl⟩;rw [E2.out]))
     go_ret
     exact⟨ret_bool (HBAD.out (by rw [HP.out,E1.out,E2.out];rfl)).symm,hbo1 _⟩
    | true =>
     have E2:=Lib.hid e2
     clear e2
     have tok2:True:=trivial
     cases e3:inR s.cells[i].lock (-1) ((s.tasks.length:Int)-1) with
     | false =>
      have E3:=Lib.hid e3
      clear e3
      go_wp2_with (first | (go_at_call 67;have _t:=tok;refine(l6In_calls _ _ _ _).mono ?_;rintro e w' ⟨rfl,rfl⟩;rw [E1.out];clear tok) | (go_at_call 67;have _t:=tok2;refine(l6In_calls _ _ _ _).mono ?_;rintro e w' ⟨rfl,rfl⟩;rw [E2.out];clear tok2) | (go_at_call 67;refine(l6In_calls _ _ _ _).mono ?_;rintro e w' ⟨rfl,rfl⟩;rw [E3.out]))
      go_ret
      exact⟨ret_bool (HBAD.out (by rw [HP.out,E1.out,E2.out,E3.out];rfl)).symm,hbo1 _⟩
     | true =>
      have E3:=Lib.hid e3
      clear e3
      go_wp2_with (first | (go_at_call 67;have _t:=tok;refine(l6In_calls _ _ _ _).mono ?_;rintro e w' ⟨rfl,rfl⟩;rw [E1.out];clear tok) | (go_at_call 67;have _t:=tok2;refine(l6In_calls _ _ _ _).mono ?_;rintro e w' ⟨rfl,rfl⟩;rw [E2.out];clear tok2) | (go_at_call 67;refine(l6In_calls _ _ _ _).mono ?_;rintro e w' ⟨rfl,rfl⟩;rw [E3.out]))
      obtain⟨V,HV⟩:∃ V,V=wo.alloc (Obj.cells #[.int .i64 s.cells[i].num,.int .i64 s.cells[i].time,.int .i64 s.cells[i].lock] 130):=⟨_,rfl⟩
      have hbV:Below W.heap.size W V:=by rw [HV];exact below_then hbr hbr.size (alB wo _)
      have hzV:V.heap.size=wo.heap.size+1:=by rw [HV];simp
      have v2:V.cell? ⟨wo.heap.size,2,none⟩=some (.int .i64 s.cells[i].lock):=by rw [HV];simp [go_sem]
      rw [← HV]
      have hvl:wo.heap.size<V.heap.size:=by omega
      have hsV:w.heap.size<V.heap.size:=Nat.lt_of_lt_of_le hs hbV.size
      have HZV:=Lib.hid hzV
      have hbwV:Below w.heap.size w V:=below_then hbW hbW.size hbV
      clear HV hzV c0 c1 c2 zs0 zs1 zs2 zs3 zt0 zt1 zt2 hbo1
      go_loopw [5] (fun v wr=>∃ k:Nat,k≤s.tasks.length∧v=.int .i64 k∧Hid ((List.range k).all (fun k=>decide (holds (s.t k) i=decide (s.cells[i].lock=k)))=true)∧Below V.heap.size V wr) (fun v _=>s.tasks.length-(intOf v).toNat)
      case atStart=>exact⟨0,Nat.zero_le _,rfl,by simp [Hid],Below.refl _ _⟩
      case round =>
       obtain⟨k,hk,rfl,HK,hbk⟩:=hrel
       have qk:Below W.heap.size W wr:=below_then hbV hbV.size hbk
       have zk0:=(qk.cell (p:=⟨w.heap.size,0,none⟩) hs).trans bs0;have zk1:=(qk.cell (p:=⟨w.heap.size,1,none⟩) hs).trans bs1;have zk2:=(qk.cell (p:=⟨w.heap.size,2,none⟩) hs).trans bs2;have zk3:=(qk.cell (p:=⟨w.heap.size,3,none⟩) hs).trans bs3
       have vk:=(hbk.cell (p:=⟨wo.heap.size,2,none⟩) hvl).trans v2
       by_cases hlk:k<s.tasks.length
       ·have hTk:=hT.belowAll (below_then hbW hbW.size qk)
        obtain⟨ad,R,O,D,U,cr,co,cd,cu,rfl,hl,hrows,hat⟩:=at_task hTk hlk
        obtain⟨k0,k1,k2,k3,k4,k5,k6,k7,k8,k9,k10,k11,k12⟩:=hat
        have hlt2:(ad.add (k*13)).block<wr.heap.size:=by rw [block_add];exact hl
        have hl1:w.heap.size<wr.heap.size:=Nat.lt_of_lt_of_le hsV hbk.size
        have hl3:wo.heap.size<wr.heap.size:=Nat.lt_of_lt_of_le hvl hbk.size
        have y1:(k:Int)<s.tasks.length:=by omega
        have y3:(0:Int)≤k:=by omega
        have hbr0:Below wr.heap.size wr wr.drew:=(Below.refl _ _).drew
        have hru:=hrows.u
        have HTK:Hid (s.t k=s.tasks[k]):=Lib.hid (sys_t hlk)
        clear hrows hTk
        obtain⟨hv,hhv⟩:∃ hv,hv=holds s.tasks[k] i:=⟨_,rfl⟩
        have HH:=Lib.hid hhv
        clear hhv
        have hgoal:∀ b:Bool,(decide (hv=b)=true ↔ hv=b):=fun b=>by simp
        obtain⟨lb,hlb⟩:∃ lb,lb=decide (s.cells[i].lock=(k:Int)):=⟨_,rfl⟩
        have hlb2:(s.cells[i].lock == (k:Int))=lb:=by rw [hlb];rfl
        have HLB:=Lib.hid hlb
        clear hlb hgoal
        go_wp2
        go_region_held3 (fun w'=>w'.cell? ⟨w.heap.size,1,none⟩=some (.slice (some ad) s.tasks.length cb)∧w'.cell? ⟨wo.heap.size,2,none⟩=some (.int .i64 s.cells[i].lock)∧w'.cell? (ad.add (k*13))=some (.int .i64 s.tasks[k].body)∧w'.cell? ⟨(ad.add (k*13)).block,(ad.add (k*13)).off+1,none⟩=some (.int .i64 s.tasks[k].pc)∧w'.cell? ⟨(ad.add (k*13)).block,(ad.add (k*13)).off+2,none⟩=some (.int .i64 s.tasks[k].up)∧w'.cell? ⟨(ad.add (k*13)).block,(ad.add (k*13)).off+3,none⟩=some (.slice R s.tasks[k].regs.length cr)∧w'.cell? ⟨(ad.add (k*13)).block,(ad.add (k*13)).off+4,none⟩=some (.int .i64 s.tasks[k].way)∧w'.cell? ⟨(ad.add (k*13)).block,(ad.add (k*13)).off+5,none⟩=some (.int .i64 s.tasks[k].stage)∧w'.cell? ⟨(ad.add (k*13)).block,(ad.add (k*13)).off+6,none⟩=some (.int .i64 s.tasks[k].pos)∧w'.cell? ⟨(ad.add (k*13)).block,(ad.add (k*13)).off+7,none⟩=some (.int .i64 s.tasks[k].since)∧w'.cell? ⟨(ad.add (k*13)).block,(ad.add (k*13)).off+8,none⟩=some (.slice O s.tasks[k].old.length co)∧w'.cell? ⟨(ad.add (k*13)).block,(ad.add (k*13)).off+9,none⟩=some (.slice D s.tasks[k].reads.length cd)∧w'.cell? ⟨(ad.add (k*13)).block,(ad.add (k*13)).off+10,none⟩=some (.slice U s.tasks[k].puts.length cu)∧w'.cell? ⟨(ad.add (k*13)).block,(ad.add (k*13)).off+11,none⟩=some (.int .i64 s.tasks[k].whn)∧w'.cell? ⟨(ad.add (k*13)).block,(ad.add (k*13)).off+12,none⟩=some (.int .i64 s.tasks[k].frm)∧Below wr.heap.size wr w') (go_keep)
         (first | (go_at_call 113;refine(l12Holds_calls s.tasks[k] i R O D U cr co cd cu _ S (hru.belowAll ‹Below wr.heap.size wr _›)).mono ?_;rintro e w6 ⟨rfl,hb6⟩;rw [← HH.out];have q0:=below_then ‹Below wr.heap.size wr _› (Below.size ‹Below wr.heap.size wr _›) hb6;have r13:=(q0.cell (p:=⟨w.heap.size,1,none⟩) hl1).trans zk1;have r14:=(q0.cell (p:=⟨wo.heap.size,2,none⟩) hl3).trans vk;have r0:=(q0.cell (p:=ad.add (k*13)) hlt2).trans k0;have r1:=(q0.cell (p:=⟨(ad.add (k*13)).block,(ad.add (k*13)).off+1,none⟩) hlt2).trans k1;have r2:=(q0.cell (p:=⟨(ad.add (k*13)).block,(ad.add (k*13)).off+2,none⟩) hlt2).trans k2;have r3:=(q0.cell (p:=⟨(ad.add (k*13)).block,(ad.add (k*13)).off+3,none⟩) hlt2).trans k3;have r4:=(q0.cell (p:=⟨(ad.add (k*13)).block,(ad.add (k*13)).off+4,none⟩) hlt2).trans k4;have r5:=(q0.cell (p:=⟨(ad.add (k*13)).block,(ad.add (k*13)).off+5,none⟩) hlt2).trans k5;have r6:=(q0.cell (p:=⟨(ad.add (k*13)).block,(ad.add (k*13)).off+6,none⟩) hlt2).trans k6;have r7:=(q0.cell (p:=⟨(ad.add (k*13)).block,(ad.add (k*13)).off+7,none⟩) hlt2).trans k7;have r8:=(q0.cell (p:=⟨(ad.add (k*13)).block,(ad.add (k*13)).off+8,none⟩) hlt2).trans k8;have r9:=(q0.cell (p:=⟨(ad.add (k*13)).block,(ad.add (k*13)).off+9,none⟩) hlt2).trans k9;have r10:=(q0.cell (p:=⟨(ad.add (k*13)).block,(ad.add (k*13)).off+10,none⟩) hlt2).trans k10;have r11:=(q0.cell (p:=⟨(ad.add (k*13)).block,(ad.add (k*13)).off+11,none⟩) hlt2).trans k11;have r12:=(q0.cell (p:=⟨(ad.add (k*13)).block,(ad.add (k*13)).off+12,none⟩) hlt2).trans k12) | fail)
        cases hv<;>cases lb
        all_goals
         go_wp2
        ·go_roundw
         case rel=>exact⟨k+1,by omega,by go_num,by unfold Hid;rw [range_all_succ,HK.out,HTK.out,← HH.out,← HLB.out];rfl,below_then hbk hbk.size q0⟩
         case measure=>simp [intOf];omega
        ·go_ret
         refine⟨ret_bool (HBAD.out ?_).symm,below_then hbwV hbwV.size (below_then hbk hbk.size q0)⟩
         rw [HP.out,E1.out,E2.out,E3.out,range_all_false _ _ k hlk (by rw [HTK.out,← HH.out,← HLB.out];rfl)];rfl
        ·go_ret
         refine⟨ret_bool (HBAD.out ?_).symm,below_then hbwV hbwV.size (below_then hbk hbk.size q0)⟩
         rw [HP.out,E1.out,E2.out,E3.out,range_all_false _ _ k hlk (by rw [HTK.out,← HH.out,← HLB.out];rfl)];rfl
        ·go_roundw
         case rel=>exact⟨k+1,by omega,by go_num,by unfold Hid;rw [range_all_succ,HK.out,HTK.out,← HH.out,← HLB.out];rfl,below_then hbk hbk.size q0⟩
         case measure=>simp [intOf];omega
       ·go_wp2
        go_roundw
        case rel=>exact⟨i+1,by omega,by go_num,by
         unfold Hid
         rw [range_all_succ,HA.out,HP.out,E1.out,E2.out,E3.out]
         have:=HK.out
         rw [show k=s.tasks.length by omega] at this
         rw [this];rfl,qk⟩
        case measure=>simp [intOf];omega
  ·have HB:Hid (cellsOk s=true):=Lib.hid (by have:=HA.out;rw [show i=s.cells.length by omega] at this;exact this)
   go_wp2
   go_ret
   exact⟨ret_bool HB.out.symm,below_then hbW hbW.size hbr⟩
end Go.Proofs.YtjacjafmimgfcaaGreat
namespace Go.Proofs.YtjacjafmimgfcaaGreat
open Go.RowKit
theorem entryOk_parts (p:Prog)(s:Sys)(e:Entry)(i:Nat):entryOk p s e i=(inR e.task 0 ((s.tasks.length:Int)-1) && (inR e.whn 0 s.clock && (inR e.frm 0 i && (putsOk e.reads s.cells.length && (putsOk e.puts s.cells.length && inR e.act 0 (((p.acts (s.t e.task.toNat).body).length:Int)-1)))))):=by
 unfold entryOk
 simp only [Bool.and_assoc]
theorem l12Log_calls (p:Prog)(s:Sys)(P Q A B C:Option Addr)(cp cq ca cb cc:Nat)(w:World)(S:Nat→Prop)(hQ:Row (Kd.slice kAct) w S Q p.bodies)(hT:Row kTask w S B s.tasks)(hL:Row kEntry w S C s.log)(hnc:s.cells.length≤1000)(hbody:∀ k,k<s.tasks.length→0≤(s.t k).body∧(s.t k).body<p.bodies.length) :
  Calls Tryz.prog 70 #[.agg #[.slice P p.cells.length cp,.slice Q p.bodies.length cq],.agg #[.slice A s.cells.length ca,.slice B s.tasks.length cb,.int .i64 s.clock,.slice C s.log.length cc]] w fun e w'=>e=.returned (.bool (logOk p s))∧Below w.heap.size w w':=by
 have hml:=hL.1
 have hmt:=hT.1
 have hmq:=hQ.1
 have hwr:IntKind.i64.wrap ((s.tasks.length:Int)-1)=(s.tasks.length:Int)-1:=IntWalk.i64_in _ (by omega)
 obtain⟨W,HW⟩:∃ W,W=(w.alloc (Obj.cells #[.slice P p.cells.length cp,.slice Q p.bodies.length cq] 39)).alloc (Obj.cells #[.slice A s.cells.length ca,.slice B s.tasks.length cb,.int .i64 s.clock,.slice C s.log.length cc] 45):=⟨_,rfl⟩
 have hbW:Below w.heap.size w W:=by rw [HW];exact alB2 w _ _
 have hzW:W.heap.size=w.heap.size+2:=by rw [HW];simp
 have bs0:W.cell? ⟨w.heap.size+1,0,none⟩=some (.slice A s.cells.length ca):=by rw [HW];simp [go_sem]
 have bs1:W.cell? ⟨w.heap.size+1,1,none⟩=some (.slice B s.tasks.length cb):=by rw [HW];simp [go_sem]
 have bs2:W.cell? ⟨w.heap.size+1,2,none⟩=some (.int .i64 s.clock):=by rw [HW];simp [go_sem]
 have bs3:W.cell? ⟨w.heap.size+1,3,none⟩=some (.slice C s.log.length cc):=by rw [HW];simp [go_sem]
 have bp0:W.cell? ⟨w.heap.size,0,none⟩=some (.slice P p.cells.length cp):=by rw [HW];simp [go_sem]
 have bp1:W.cell? ⟨w.heap.size,1,none⟩=some (.slice Q p.bodies.length cq):=by rw [HW];simp [go_sem]
 have hs:w.heap.size+1<W.heap.size:=by omega
 have hp:w.heap.size<W.heap.size:=by omega
 have HZ:=Lib.hid hzW
 have HWW:=Lib.hid HW
 clear HW hzW
 go_enter Tryz.func70,Tryz.ntmps70
 go_wp2
 rw [← HWW.out]
 go_loopw [5,6] (fun i _ wr=>∃ k:Nat,k≤s.log.length∧i=.int .i64 k∧Hid ((List.range k).all (fun i=>entryOk p s (s.log.getD i noEntry) i)=true)∧Below W.heap.size W wr) (fun i _ _=>s.log.length-(intOf i).toNat)
 case atStart=>exact⟨0,Nat.zero_le _,rfl,by simp [Hid],Below.refl _ _⟩
 case round =>
  obtain⟨i,hi,rfl,HA,hbr⟩:=hrel
  have zs0:=(hbr.cell (p:=⟨w.heap.size+1,0,none⟩) hs).trans bs0;have zs1:=(hbr.cell (p:=⟨w.heap.size+1,1,none⟩) hs).trans bs1;have zs2:=(hbr.cell (p:=⟨w.heap.size+1,2,none⟩) hs).trans bs2;have zs3:=(hbr.cell (p:=⟨w.heap.size+1,3,none⟩) hs).trans bs3;have zp0:=(hbr.cell (p:=⟨w.heap.size,0,none⟩) hp).trans bp0;have zp1:=(hbr.cell (p:=⟨w.heap.size,1,none⟩) hp).trans bp1
  by_cases hlt:i<s.log.length
  ·obtain⟨wo,rfl⟩:∃ wo:World,wo=wr:=⟨_,rfl⟩
   have hbo:Below w.heap.size w wo:=below_then hbW hbW.size hbr
   have hLo:=hL.belowAll hbo
   obtain⟨ac,D,U,cd,cu,rfl,hlc,hrows,hat⟩:=at_entry hLo hlt
   obtain⟨k0,k1,k2,k3,k4,k5⟩:=hat
   obtain⟨hrl,hul,hrd,hru⟩:=hrows
   have hmr:=hrd.1
   have hmu:=hru.1
   have x1:(i:Int)<s.log.length:=by omega
   have x3:(0:Int)≤i:=by omega
   have hsw:w.heap.size+1<wo.heap.size:=Nat.lt_of_lt_of_le hs hbr.size
   have hpw:w.heap.size<wo.heap.size:=Nat.lt_of_lt_of_le hp hbr.size
   have zt0:=fun o=>((alB wo o).cell (p:=⟨w.heap.size+1,0,none⟩) hsw).trans zs0
   have zt1:=fun o=>((alB wo o).cell (p:=⟨w.heap.size+1,1,none⟩) hsw).trans zs1
   have zt2:=fun o=>((alB wo o).cell (p:=⟨w.heap.size+1,2,none⟩) hsw).trans zs2
   have hbo1:=fun o=>below_then hbo hbo.size (alB wo o)
   have HG:Hid (s.log.getD i noEntry=s.log[i]):=Lib.hid (getD_at _ _ _ hlt)
   have HP:=Lib.hid (entryOk_parts p s s.log[i] i)
   have hbad:entryOk p s s.log[i] i=false→logOk p s=false:=fun h=>range_all_false _ _ i hlt (by rw [getD_at _ _ _ hlt];exact h)
   have HBAD:=Lib.hid hbad
   clear hbad
   have tok1:True:=trivial
   have tok2:True:=trivial
   have tok3:True:=trivial
   have tok4:True:=trivial
   have en0:∀ V,V=wo.alloc (Obj.cells #[.int .i64 s.log[i].task,.int .i64 s.log[i].act,.int .i64 s.log[i].whn,.slice D s.log[i].reads.length cd,.slice U s.log[i].puts.length cu,.int .i64 s.log[i].frm] 68)→V.cell? ⟨wo.heap.size,0,none⟩=some (.int .i64 s.log[i].task):=by intro V h;rw [h];simp [go_sem]
   have en1:∀ V,V=wo.alloc (Obj.cells #[.int .i64 s.log[i].task,.int .i64 s.log[i].act,.int .i64 s.log[i].whn,.slice D s.log[i].reads.length cd,.slice U s.log[i].puts.length cu,.int .i64 s.log[i].frm] 68)→V.cell? ⟨wo.heap.size,1,none⟩=some (.int .i64 s.log[i].act):=by intro V h;rw [h];simp [go_sem]
   have en2:∀ V,V=wo.alloc (Obj.cells #[.int .i64 s.log[i].task,.int .i64 s.log[i].act,.int .i64 s.log[i].whn,.slice D s.log[i].reads.length cd,.slice U s.log[i].puts.length cu,.int .i64 s.log[i].frm] 68)→V.cell? ⟨wo.heap.size,2,none⟩=some (.int .i64 s.log[i].whn):=by intro V h;rw [h];simp [go_sem]
   have en3:∀ V,V=wo.alloc (Obj.cells #[.int .i64 s.log[i].task,.int .i64 s.log[i].act,.int .i64 s.log[i].whn,.slice D s.log[i].reads.length cd,.slice U s.log[i].puts.length cu,.int .i64 s.log[i].frm] 68)→V.cell? ⟨wo.heap.size,3,none⟩=some (.slice D s.log[i].reads.length cd):=by intro V h;rw [h];simp [go_sem]
   have en4:∀ V,V=wo.alloc (Obj.cells #[.int .i64 s.log[i].task,.int .i64 s.log[i].act,.int .i64 s.log[i].whn,.slice D s.log[i].reads.length cd,.slice U s.log[i].puts.length cu,.int .i64 s.log[i].frm] 68)→V.cell? ⟨wo.heap.size,4,none⟩=some (.slice U s.log[i].puts.length cu):=by intro V h;rw [h];simp [go_sem]
   have en5:∀ V,V=wo.alloc (Obj.cells #[.int .i64 s.log[i].task,.int .i64 s.log[i].act,.int .i64 s.log[i].whn,.slice D s.log[i].reads.length cd,.slice U s.log[i].puts.length cu,.int .i64 s.log[i].frm] 68)→V.cell? ⟨wo.heap.size,5,none⟩=some (.int .i64 s.log[i].frm):=by intro V h;rw [h];simp [go_sem]
   cases e1:inR s.log[i].task 0 ((s.tasks.length:Int)-1) with
   | false =>
    have E1:=Lib.hid e1
    clear e1
    go_wp2_with (first | (go_at_call 67;have _t:=tok1;refine(l6In_calls _ _ _ _).mono ?_;rintro e w' ⟨rfl,rfl⟩;rw [E1.out];clear tok1))
    go_ret
    exact⟨ret_bool (HBAD.out (by rw [HP.out,E1.out];rfl)).symm,hbo1 _⟩
   | true =>
    have E1:=Lib.hid e1
    have hrg:0≤s.log[i].task∧s.log[i].task≤(s.tasks.length:Int)-1:=by simpa [inR] using e1
    clear e1
    cases e2:inR s.log[i].whn 0 s.clock with
    | false =>
     have E2:=Lib.hid e2
     clear e2
     go_wp2_with (first | (go_at_call 67;have _t:=tok1;refine(l6In_calls _ _ _ _).mono ?_;rintro e w' ⟨rfl,rfl⟩;rw [E1.out];clear tok1) | (go_at_call 67;have _t:=tok2;refine(l6In_calls _ _ _ _).mono ?_;rintro e w' ⟨rfl,rfl⟩;rw [E2.out];clear tok2))
     go_ret
     exact⟨ret_bool (HBAD.out (by rw [HP.out,E1.out,E2.out];rfl)).symm,hbo1 _⟩
    | true =>
     have E2:=Lib.hid e2
     clear e2
     cases e3:inR s.log[i].frm 0 i with
     | false =>
      have E3:=Lib.hid e3
      clear e3
      go_wp2_with (first | (go_at_call 67;have _t:=tok1;refine(l6In_calls _ _ _ _).mono ?_;rintro e w' ⟨rfl,rfl⟩;rw [E1.out];clear tok1) | (go_at_call 67;have _t:=tok2;refine(l6In_calls _ _ _ _).mono ?_;rintro e w' ⟨rfl,rfl⟩;rw [E2.out];clear tok2) | (go_at_call 67;have _t:=tok3;refine(l6In_calls _ _ _ _).mono ?_;rintro e w' ⟨rfl,rfl⟩;rw [E3.out];clear tok3))
      go_ret
      exact⟨ret_bool (HBAD.out (by rw [HP.out,E1.out,E2.out,E3.out];rfl)).symm,hbo1 _⟩
     | true =>
      have E3:=Lib.hid e3
      clear e3
      cases e4:putsOk s.log[i].reads s.cells.length with
      | false =>
       have E4:=Lib.hid e4
       clear e4
       go_wp2_with (first | (go_at_call 67;have _t:=tok1;refine(l6In_calls _ _ _ _).mono ?_;rintro e w' ⟨rfl,rfl⟩;rw [E1.out];clear tok1) | (go_at_call 67;have _t:=tok2;refine(l6In_calls _ _ _ _).mono ?_;rintro e w' ⟨rfl,rfl⟩;rw [E2.out];clear tok2) | (go_at_call 67;have _t:=tok3;refine(l6In_calls _ _ _ _).mono ?_;rintro e w' ⟨rfl,rfl⟩;rw [E3.out];clear tok3) | (go_at_call 109;have _t:=tok4;refine(l12List_calls s.log[i].reads D cd _ _ S (hrd.belowAll (alB wo _)) (by omega) (by omega)).mono ?_;rintro e w5 ⟨rfl,hb5⟩;rw [E4.out];have q5:Below wo.heap.size wo w5:=below_then (alB wo _) (by simp) hb5;have qq5:Below W.heap.size W w5:=below_then hbr hbr.size q5;have ys0:=(qq5.cell (p:=⟨w.heap.size+1,0,none⟩) hs).trans bs0;have ys1:=(qq5.cell (p:=⟨w.heap.size+1,1,none⟩) hs).trans bs1;have ys2:=(qq5.cell (p:=⟨w.heap.size+1,2,none⟩) hs).trans bs2;have ys3:=(qq5.cell (p:=⟨w.heap.size+1,3,none⟩) hs).trans bs3;have yp0:=(qq5.cell (p:=⟨w.heap.size,0,none⟩) hp).trans bp0;have yp1:=(qq5.cell (p:=⟨w.heap.size,1,none⟩) hp).trans bp1;have f0:=(hb5.cell (p:=⟨wo.heap.size,0,none⟩) (by simp)).trans (en0 _ rfl);have f1:=(hb5.cell (p:=⟨wo.heap.size,1,none⟩) (by simp)).trans (en1 _ rfl);have f2:=(hb5.cell (p:=⟨wo.heap.size,2,none⟩) (by simp)).trans (en2 _ rfl);have f3:=(hb5.cell (p:=⟨wo.heap.size,3,none⟩) (by simp)).trans (en3 _ rfl);have f4:=(hb5.cell (p:=⟨wo.heap.size,4,none⟩) (by simp)).trans (en4 _ rfl);have f5:=(hb5.cell (p:=⟨wo.heap.size,5,none⟩) (by simp)).trans (en5 _ rfl);have hf5:wo.heap.size<w5.heap.size:=Nat.lt_of_lt_of_le (by simp) hb5.size;clear tok4))
       go_ret
       exact⟨ret_bool (HBAD.out (by rw [HP.out,E1.out,E2.out,E3.out,E4.out];rfl)).symm,below_then hbo hbo.size q5⟩
      | true =>
       have E4:=Lib.hid e4
       clear e4
       cases e5:putsOk s.log[i].puts s.cells.length with
       | false =>
        have E5:=Lib.hid e5
        clear e5
        go_wp2_with (first | (go_at_call 67;have _t:=tok1;refine(l6In_calls _ _ _ _).mono ?_;rintro e w' ⟨rfl,rfl⟩;rw [E1.out];clear tok1) | (go_at_call 67;have _t:=tok2;refine(l6In_calls _ _ _ _).mono ?_;rintro e w' ⟨rfl,rfl⟩;rw [E2.out];clear tok2) | (go_at_call 67;have _t:=tok3;refine(l6In_calls _ _ _ _).mono ?_;rintro e w' ⟨rfl,rfl⟩;rw [E3.out];clear tok3) | (go_at_call 109;have _t:=tok4;refine(l12List_calls s.log[i].reads D cd _ _ S (hrd.belowAll (alB wo _)) (by omega) (by omega)).mono ?_;rintro e w5 ⟨rfl,hb5⟩;rw [E4.out];have q5:Below wo.heap.size wo w5:=below_then (alB wo _) (by simp) hb5;have qq5:Below W.heap.size W w5:=below_then hbr hbr.size q5;have ys0:=(qq5.cell (p:=⟨w.heap.size+1,0,none⟩) hs).trans bs0;have ys1:=(qq5.cell (p:=⟨w.heap.size+1,1,none⟩) hs).trans bs1;have ys2:=(qq5.cell (p:=⟨w.heap.size+1,2,none⟩) hs).trans bs2;have ys3:=(qq5.cell (p:=⟨w.heap.size+1,3,none⟩) hs).trans bs3;have yp0:=(qq5.cell (p:=⟨w.heap.size,0,none⟩) hp).trans bp0;have yp1:=(qq5.cell (p:=⟨w.heap.size,1,none⟩) hp).trans bp1;have f0:=(hb5.cell (p:=⟨wo.heap.size,0,none⟩) (by simp)).trans (en0 _ rfl);have f1:=(hb5.cell (p:=⟨wo.heap.size,1,none⟩) (by simp)).trans (en1 _ rfl);have f2:=(hb5.cell (p:=⟨wo.heap.size,2,none⟩) (by simp)).trans (en2 _ rfl);have f3:=(hb5.cell (p:=⟨wo.heap.size,3,none⟩) (by simp)).trans (en3 _ rfl);have f4:=(hb5.cell (p:=⟨wo.heap.size,4,none⟩) (by simp)).trans (en4 _ rfl);have f5:=(hb5.cell (p:=⟨wo.heap.size,5,none⟩) (by simp)).trans (en5 _ rfl);have hf5:wo.heap.size<w5.heap.size:=Nat.lt_of_lt_of_le (by simp) hb5.size;clear tok4) | (go_at_call 109;refine(l12List_calls s.log[i].puts U cu _ _ S (hru.belowAll q5) (by omega) (by omega)).mono ?_;rintro e w6 ⟨rfl,hb6⟩;rw [E5.out];have q6:Below wo.heap.size wo w6:=below_then q5 q5.size hb6;have qq6:Below W.heap.size W w6:=below_then hbr hbr.size q6;have xs0:=(qq6.cell (p:=⟨w.heap.size+1,0,none⟩) hs).trans bs0;have xs1:=(qq6.cell (p:=⟨w.heap.size+1,1,none⟩) hs).trans bs1;have xs2:=(qq6.cell (p:=⟨w.heap.size+1,2,none⟩) hs).trans bs2;have xs3:=(qq6.cell (p:=⟨w.heap.size+1,3,none⟩) hs).trans bs3;have xp0:=(qq6.cell (p:=⟨w.heap.size,0,none⟩) hp).trans bp0;have xp1:=(qq6.cell (p:=⟨w.heap.size,1,none⟩) hp).trans bp1;have g0:=(hb6.cell (p:=⟨wo.heap.size,0,none⟩) hf5).trans f0;have g1:=(hb6.cell (p:=⟨wo.heap.size,1,none⟩) hf5).trans f1;have g2:=(hb6.cell (p:=⟨wo.heap.size,2,none⟩) hf5).trans f2;have g3:=(hb6.cell (p:=⟨wo.heap.size,3,none⟩) hf5).trans f3;have g4:=(hb6.cell (p:=⟨wo.heap.size,4,none⟩) hf5).trans f4;have g5:=(hb6.cell (p:=⟨wo.heap.size,5,none⟩) hf5).trans f5))
        go_ret
        exact⟨ret_bool (HBAD.out (by rw [HP.out,E1.out,E2.out,E3.out,E4.out,E5.out];rfl)).symm,below_then hbo hbo.size q6⟩
       | true =>
        have E5:=Lib.hid e5
        clear e5
        go_wp2_with (first | (go_at_call 67;have _t:=tok1;refine(l6In_calls _ _ _ _).mono ?_;rintro e w' ⟨rfl,rfl⟩;rw [E1.out];clear tok1) | (go_at_call 67;have _t:=tok2;refine(l6In_calls _ _ _ _).mono ?_;rintro e w' ⟨rfl,rfl⟩;rw [E2.out];clear tok2) | (go_at_call 67;have _t:=tok3;refine(l6In_calls _ _ _ _).mono ?_;rintro e w' ⟨rfl,rfl⟩;rw [E3.out];clear tok3) | (go_at_call 109;have _t:=tok4;refine(l12List_calls s.log[i].reads D cd _ _ S (hrd.belowAll (alB wo _)) (by omega) (by omega)).mono ?_;rintro e w5 ⟨rfl,hb5⟩;rw [E4.out];have q5:Below wo.heap.size wo w5:=below_then (alB wo _) (by simp) hb5;have qq5:Below W.heap.size W w5:=below_then hbr hbr.size q5;have ys0:=(qq5.cell (p:=⟨w.heap.size+1,0,none⟩) hs).trans bs0;have ys1:=(qq5.cell (p:=⟨w.heap.size+1,1,none⟩) hs).trans bs1;have ys2:=(qq5.cell (p:=⟨w.heap.size+1,2,none⟩) hs).trans bs2;have ys3:=(qq5.cell (p:=⟨w.heap.size+1,3,none⟩) hs).trans bs3;have yp0:=(qq5.cell (p:=⟨w.heap.size,0,none⟩) hp).trans bp0;have yp1:=(qq5.cell (p:=⟨w.heap.size,1,none⟩) hp).trans bp1;have f0:=(hb5.cell (p:=⟨wo.heap.size,0,none⟩) (by simp)).trans (en0 _ rfl);have f1:=(hb5.cell (p:=⟨wo.heap.size,1,none⟩) (by simp)).trans (en1 _ rfl);have f2:=(hb5.cell (p:=⟨wo.heap.size,2,none⟩) (by simp)).trans (en2 _ rfl);have f3:=(hb5.cell (p:=⟨wo.heap.size,3,none⟩) (by simp)).trans (en3 _ rfl);have f4:=(hb5.cell (p:=⟨wo.heap.size,4,none⟩) (by simp)).trans (en4 _ rfl);have f5:=(hb5.cell (p:=⟨wo.heap.size,5,none⟩) (by simp)).trans (en5 _ rfl);have hf5:wo.heap.size<w5.heap.size:=Nat.lt_of_lt_of_le (by simp) hb5.size;clear tok4) | (go_at_call 109;refine(l12List_calls s.log[i].puts U cu _ _ S (hru.belowAll q5) (by omega) (by omega)).mono ?_;rintro e w6 ⟨rfl,hb6⟩;rw [E5.out];have q6:Below wo.heap.size wo w6:=below_then q5 q5.size hb6;have qq6:Below W.heap.size W w6:=below_then hbr hbr.size q6;have xs0:=(qq6.cell (p:=⟨w.heap.size+1,0,none⟩) hs).trans bs0;have xs1:=(qq6.cell (p:=⟨w.heap.size+1,1,none⟩) hs).trans bs1;have xs2:=(qq6.cell (p:=⟨w.heap.size+1,2,none⟩) hs).trans bs2;have xs3:=(qq6.cell (p:=⟨w.heap.size+1,3,none⟩) hs).trans bs3;have xp0:=(qq6.cell (p:=⟨w.heap.size,0,none⟩) hp).trans bp0;have xp1:=(qq6.cell (p:=⟨w.heap.size,1,none⟩) hp).trans bp1;have g0:=(hb6.cell (p:=⟨wo.heap.size,0,none⟩) hf5).trans f0;have g1:=(hb6.cell (p:=⟨wo.heap.size,1,none⟩) hf5).trans f1;have g2:=(hb6.cell (p:=⟨wo.heap.size,2,none⟩) hf5).trans f2;have g3:=(hb6.cell (p:=⟨wo.heap.size,3,none⟩) hf5).trans f3;have g4:=(hb6.cell (p:=⟨wo.heap.size,4,none⟩) hf5).trans f4;have g5:=(hb6.cell (p:=⟨wo.heap.size,5,none⟩) hf5).trans f5))
        obtain⟨z,hz⟩:∃ z:Nat,s.log[i].task=(z:Int):=⟨s.log[i].task.toNat,by omega⟩
        have hzl:z<s.tasks.length:=by omega
        have hbz:=hbody z hzl
        rw [sys_t hzl] at hbz
        obtain⟨b,hbn⟩:∃ b:Nat,s.tasks[z].body=(b:Int):=⟨s.tasks[z].body.toNat,by omega⟩
        have hbl:b<p.bodies.length:=by omega
        have hb6w:Below w.heap.size w w6:=below_then hbW hbW.size qq6
        obtain⟨ad,R,O,D',U',cr,co,cd',cu',rfl,hl,hrows,hat⟩:=at_task (hT.belowAll hb6w) hzl
        have j0:=hat.c0
        rw [hbn] at j0
        obtain⟨ae,E,ce,rfl,hle,hce,hcel,hE⟩:=at_slice (hQ.belowAll hb6w) hbl
        have hme:=hE.1
        have hacts:p.acts (s.t s.log[i].task.toNat).body=p.bodies[b]:=by rw [hz,Int.toNat_natCast,sys_t hzl,hbn];unfold Prog.acts;rw [Int.toNat_natCast];exact getD_at _ _ _ hbl
        have HAC:=Lib.hid hacts
        have g0':=g0
        rw [hz] at g0'
        have y1:(z:Int)<s.tasks.length:=by omega
        have y2:(0:Int)≤z:=by omega
        have y3:(b:Int)<p.bodies.length:=by omega
        have y4:(0:Int)≤b:=by omega
        have hw2:IntKind.i64.wrap ((p.bodies[b].length:Int)-1)=(p.bodies[b].length:Int)-1:=IntWalk.i64_in _ (by omega)
        clear hz hbn hacts hat hrows g0 hrg f0 f1 f2 f3 f4 f5 hbz
        cases e6:inR s.log[i].act 0 ((p.bodies[b].length:Int)-1)
        ·have hc6:=l6In_drew _ _ _ _ e6 w6
         have E6:=Lib.hid e6
         clear e6
         go_quiet (first | (go_at_call 67;with_reducible refine Calls.quiet_of_same (hc6 _)))
         go_wp2
         go_ret
         exact⟨ret_bool (HBAD.out (by rw [HP.out,E1.out,E2.out,E3.out,E4.out,E5.out,HAC.out,E6.out];rfl)).symm,below_drewN1 (below_then hbo hbo.size q6) _⟩
        ·have hc6:=l6In_drew _ _ _ _ e6 w6
         have E6:=Lib.hid e6
         clear e6
         go_quiet (first | (go_at_call 67;with_reducible refine Calls.quiet_of_same (hc6 _)))
         go_wp2
         go_roundw
         case rel=>exact⟨i+1,by omega,by go_num,by unfold Hid;rw [range_all_succ,HA.out,HG.out,HP.out,E1.out,E2.out,E3.out,E4.out,E5.out,HAC.out,E6.out];rfl,below_drewN1 qq6 _⟩
         case measure=>simp [intOf];omega
  ·have HB:Hid (logOk p s=true):=Lib.hid (by have:=HA.out;rw [show i=s.log.length by omega] at this;exact this)
   go_wp2
   go_ret
   exact⟨ret_bool HB.out.symm,below_then hbW hbW.size hbr⟩
end Go.Proofs.YtjacjafmimgfcaaGreat
