/- The reference's look at a system: all of it.; The reference: a run of turns.; The reference: a new system; the program that is refused. -/
import Derived.Test.YtjacjafmimgfcaaGreatWae
import Derived.Test.YtjacjafmimgfcaaGreatWap
import Derived.Test.YtjacjafmimgfcaaGreatWbe
import Derived.Test.YtjacjafmimgfcaaGreatWbf
import Derived.Test.YtjacjafmimgfcaaGreatWbg
set_option maxHeartbeats 4000000
set_option maxRecDepth 100000
set_option linter.unusedVariables false
set_option linter.unusedSimpArgs false
namespace Go.Proofs.YtjacjafmimgfcaaGreat
open Go.RowKit
theorem sysOk_parts (p:Prog)(s:Sys):sysOk p s=(progOk p && (decide ((s.cells.length:Int)=p.cells.length) && (inR s.tasks.length 1 7 && (inR s.clock 0 200 && ((List.range s.tasks.length).all (taskOk p s) && (cellsOk s && logOk p s)))))):=by
 unfold sysOk
 simp only [Bool.and_assoc]
theorem specSysOk_calls (p:Prog)(s:Sys)(P Q A B C:Option Addr)(cp cq ca cb cc:Nat)(w:World)(S:Nat→Prop)(hP:Row Kd.int w S P p.cells)(hQ:Row (Kd.slice kAct) w S Q p.bodies)(hS:SysR w S s A B C) :
  Calls Tryz.prog 30 #[.agg #[.slice P p.cells.length cp,.slice Q p.bodies.length cq],.agg #[.slice A s.cells.length ca,.slice B s.tasks.length cb,.int .i64 s.clock,.slice C s.log.length cc]] w fun e w'=>e=.returned (.bool (sysOk p s))∧Below w.heap.size w w':=by
 obtain⟨hC,hT,hL⟩:=hS
 have hml:=hL.1
 have hmt:=hT.1
 have hmc:=hC.1
 have hmp:=hP.1
 obtain⟨W,HW⟩:∃ W,W=(w.alloc (Obj.cells #[.slice P p.cells.length cp,.slice Q p.bodies.length cq] 39)).alloc (Obj.cells #[.slice A s.cells.length ca,.slice B s.tasks.length cb,.int .i64 s.clock,.slice C s.log.length cc] 45):=⟨_,rfl⟩
 have hbW:Below w.heap.size w W:=by rw [HW];exact alB2 w _ _
 have hzW:W.heap.size=w.heap.size+2:=by rw [HW];simp
 have bs0:W.cell? ⟨w.heap.size+1,0,none⟩=some (.slice A s.cells.length ca):=by rw [HW];simp [go_sem]
 have bs1:W.cell? ⟨w.heap.size+1,1,none⟩=some (.slice B s.tasks.length cb):=by rw [HW];simp [go_sem]
 have bs2:W.cell? ⟨w.heap.size+1,2,none⟩=some (.int .i64 s.clock):=by rw [HW];simp [go_sem]
 have bs3:W.cell? ⟨w.heap.size+1,3,none⟩=some (.slice C s.log.length cc):=by rw [HW];simp [go_sem]
 have bp0:W.cell? ⟨w.heap.size,0,none⟩=some (.slice P p.cells.length cp):=by rw [HW];simp [go_sem]
 have bp1:W.cell? ⟨w.heap.size,1,none⟩=some (.slice Q p.bodies.length cq):=by rw [HW];simp [go_sem]
 have hs:w.heap.size+1<W.heap.size:=by omega
 have hp:w.heap.size<W.heap.size:=by omega
 have HWW:=Lib.hid HW
 have HP:=Lib.hid (sysOk_parts p s)
 clear HW hzW
 cases e1:progOk p with
 | false =>
  have E1:=Lib.hid e1
  clear e1
  go_enter Tryz.func30,Tryz.ntmps30
  go_wp2_with (first | (go_at_call 66;refine(specProgOk_calls p P Q cp cq _ S (hP.belowAll (alB2 w _ _)) (hQ.belowAll (alB2 w _ _))).mono ?_;rintro e w1 ⟨rfl,hb1⟩;rw [← HWW.out] at hb1;rw [E1.out];have hbw1:Below w.heap.size w w1:=below_then hbW hbW.size hb1;have zs0:=(hb1.cell (p:=⟨w.heap.size+1,0,none⟩) hs).trans bs0;have zs1:=(hb1.cell (p:=⟨w.heap.size+1,1,none⟩) hs).trans bs1;have zs2:=(hb1.cell (p:=⟨w.heap.size+1,2,none⟩) hs).trans bs2;have zs3:=(hb1.cell (p:=⟨w.heap.size+1,3,none⟩) hs).trans bs3;have zp0:=(hb1.cell (p:=⟨w.heap.size,0,none⟩) hp).trans bp0;have zp1:=(hb1.cell (p:=⟨w.heap.size,1,none⟩) hp).trans bp1))
  go_ret
  exact⟨ret_bool (by rw [HP.out,E1.out];rfl),hbw1⟩
 | true =>
  have hlen:=formOk_len (by unfold progOk at e1;simp only [Bool.and_eq_true] at e1;exact e1.1)
  have E1:=Lib.hid e1
  clear e1
  by_cases e2:(s.cells.length:Int)=p.cells.length
  rotate_left
  ·have b2:((s.cells.length:Int) != p.cells.length)=true:=bne_iff_ne.2 e2
   have E2:=Lib.hid e2
   clear e2
   go_enter Tryz.func30,Tryz.ntmps30
   go_wp2_with (first | (go_at_call 66;refine(specProgOk_calls p P Q cp cq _ S (hP.belowAll (alB2 w _ _)) (hQ.belowAll (alB2 w _ _))).mono ?_;rintro e w1 ⟨rfl,hb1⟩;rw [← HWW.out] at hb1;rw [E1.out];have hbw1:Below w.heap.size w w1:=below_then hbW hbW.size hb1;have zs0:=(hb1.cell (p:=⟨w.heap.size+1,0,none⟩) hs).trans bs0;have zs1:=(hb1.cell (p:=⟨w.heap.size+1,1,none⟩) hs).trans bs1;have zs2:=(hb1.cell (p:=⟨w.heap.size+1,2,none⟩) hs).trans bs2;have zs3:=(hb1.cell (p:=⟨w.heap.size+1,3,none⟩) hs).trans bs3;have zp0:=(hb1.cell (p:=⟨w.heap.size,0,none⟩) hp).trans bp0;have zp1:=(hb1.cell (p:=⟨w.heap.size,1,none⟩) hp).trans bp1))
   go_ret
   exact⟨ret_bool (by rw [HP.out,E1.out,decide_eq_false E2.out];rfl),hbw1⟩
  ·have b2:((s.cells.length:Int) != p.cells.length)=false:=by simp only [e2];simp
   have hnc:s.cells.length≤1000:=by omega
   have E2:=Lib.hid e2
   clear e2
   have tok3:True:=trivial
   cases e3:inR s.tasks.length 1 7 with
   | false =>
    have E3:=Lib.hid e3
    clear e3
    go_enter Tryz.func30,Tryz.ntmps30
    go_wp2_with (first | (go_at_call 66;refine(specProgOk_calls p P Q cp cq _ S (hP.belowAll (alB2 w _ _)) (hQ.belowAll (alB2 w _ _))).mono ?_;rintro e w1 ⟨rfl,hb1⟩;rw [← HWW.out] at hb1;rw [E1.out];have hbw1:Below w.heap.size w w1:=below_then hbW hbW.size hb1;have zs0:=(hb1.cell (p:=⟨w.heap.size+1,0,none⟩) hs).trans bs0;have zs1:=(hb1.cell (p:=⟨w.heap.size+1,1,none⟩) hs).trans bs1;have zs2:=(hb1.cell (p:=⟨w.heap.size+1,2,none⟩) hs).trans bs2;have zs3:=(hb1.cell (p:=⟨w.heap.size+1,3,none⟩) hs).trans bs3;have zp0:=(hb1.cell (p:=⟨w.heap.size,0,none⟩) hp).trans bp0;have zp1:=(hb1.cell (p:=⟨w.heap.size,1,none⟩) hp).trans bp1) | (go_at_call 67;have _t:=tok3;refine(l6In_calls _ _ _ _).mono ?_;rintro e w' ⟨rfl,rfl⟩;rw [E3.out];clear tok3))
    go_ret
    exact⟨ret_bool (by rw [HP.out,E1.out,decide_eq_true E2.out,E3.out];rfl),hbw1⟩
   | true =>
    have hn7:1≤s.tasks.length∧s.tasks.length≤7:=by simp [inR] at e3;omega
    have E3:=Lib.hid e3
    clear e3
    cases e4:inR s.clock 0 200 with
    | false =>
     have E4:=Lib.hid e4
     clear e4
     go_enter Tryz.func30,Tryz.ntmps30
     go_wp2_with (first | (go_at_call 66;refine(specProgOk_calls p P Q cp cq _ S (hP.belowAll (alB2 w _ _)) (hQ.belowAll (alB2 w _ _))).mono ?_;rintro e w1 ⟨rfl,hb1⟩;rw [← HWW.out] at hb1;rw [E1.out];have hbw1:Below w.heap.size w w1:=below_then hbW hbW.size hb1;have zs0:=(hb1.cell (p:=⟨w.heap.size+1,0,none⟩) hs).trans bs0;have zs1:=(hb1.cell (p:=⟨w.heap.size+1,1,none⟩) hs).trans bs1;have zs2:=(hb1.cell (p:=⟨w.heap.size+1,2,none⟩) hs).trans bs2;have zs3:=(hb1.cell (p:=⟨w.heap.size+1,3,none⟩) hs).trans bs3;have zp0:=(hb1.cell (p:=⟨w.heap.size,0,none⟩) hp).trans bp0;have zp1:=(hb1.cell (p:=⟨w.heap.size,1,none⟩) hp).trans bp1) | (go_at_call 67;have _t:=tok3;refine(l6In_calls _ _ _ _).mono ?_;rintro e w' ⟨rfl,rfl⟩;rw [E3.out];clear tok3) | (go_at_call 67;refine(l6In_calls _ _ _ _).mono ?_;rintro e w' ⟨rfl,rfl⟩;rw [E4.out]))
     go_ret
     exact⟨ret_bool (by rw [HP.out,E1.out,decide_eq_true E2.out,E3.out,E4.out];rfl),hbw1⟩
    | true =>
     have hck:0≤s.clock∧s.clock≤200:=by simpa [inR] using e4
     have E4:=Lib.hid e4
     clear e4
     go_enter Tryz.func30,Tryz.ntmps30
     go_wp2_with (first | (go_at_call 66;refine(specProgOk_calls p P Q cp cq _ S (hP.belowAll (alB2 w _ _)) (hQ.belowAll (alB2 w _ _))).mono ?_;rintro e w1 ⟨rfl,hb1⟩;rw [← HWW.out] at hb1;rw [E1.out];have hbw1:Below w.heap.size w w1:=below_then hbW hbW.size hb1;have zs0:=(hb1.cell (p:=⟨w.heap.size+1,0,none⟩) hs).trans bs0;have zs1:=(hb1.cell (p:=⟨w.heap.size+1,1,none⟩) hs).trans bs1;have zs2:=(hb1.cell (p:=⟨w.heap.size+1,2,none⟩) hs).trans bs2;have zs3:=(hb1.cell (p:=⟨w.heap.size+1,3,none⟩) hs).trans bs3;have zp0:=(hb1.cell (p:=⟨w.heap.size,0,none⟩) hp).trans bp0;have zp1:=(hb1.cell (p:=⟨w.heap.size,1,none⟩) hp).trans bp1) | (go_at_call 67;have _t:=tok3;refine(l6In_calls _ _ _ _).mono ?_;rintro e w' ⟨rfl,rfl⟩;rw [E3.out];clear tok3) | (go_at_call 67;refine(l6In_calls _ _ _ _).mono ?_;rintro e w' ⟨rfl,rfl⟩;rw [E4.out]))
     have hHP:Hid (sysOk p s=((List.range s.tasks.length).all (taskOk p s) && (cellsOk s && logOk p s))):=Lib.hid (by rw [HP.out,E1.out,decide_eq_true E2.out,E3.out,E4.out];simp only [Bool.true_and])
     clear zs0 zs1 zs2 zs3 zp0 zp1
     go_loopw [5] (fun i wr=>∃ k:Nat,k≤s.tasks.length∧i=.int .i64 k∧Hid ((List.range k).all (taskOk p s)=true)∧Below W.heap.size W wr) (fun i _=>s.tasks.length-(intOf i).toNat)
     case atStart=>exact⟨0,Nat.zero_le _,rfl,by simp [Hid],hb1⟩
     case round =>
      obtain⟨i,hi,rfl,HA,hbr⟩:=hrel
      have zs0:=(hbr.cell (p:=⟨w.heap.size+1,0,none⟩) hs).trans bs0;have zs1:=(hbr.cell (p:=⟨w.heap.size+1,1,none⟩) hs).trans bs1;have zs2:=(hbr.cell (p:=⟨w.heap.size+1,2,none⟩) hs).trans bs2;have zs3:=(hbr.cell (p:=⟨w.heap.size+1,3,none⟩) hs).trans bs3;have zp0:=(hbr.cell (p:=⟨w.heap.size,0,none⟩) hp).trans bp0;have zp1:=(hbr.cell (p:=⟨w.heap.size,1,none⟩) hp).trans bp1
      have hbo:Below w.heap.size w wr:=below_then hbW hbW.size hbr
      by_cases hlt:i<s.tasks.length
      ·have x1:(i:Int)<s.tasks.length:=by omega
       cases e5:taskOk p s i with
       | false =>
        have E5:=Lib.hid e5
        clear e5
        go_wp2_with (go_at_call 68;refine(l12Task_calls p s i P Q A B C cp cq ca cb cc _ S (hQ.belowAll hbo) (hT.belowAll hbo) hlt (by omega) hnc hck.1 hck.2 hml).mono ?_;rintro e w2 ⟨rfl,hb2⟩;rw [E5.out])
        go_ret
        exact⟨ret_bool (by rw [hHP.out,range_all_false _ _ i hlt E5.out];rfl),below_then hbo hbo.size hb2⟩
       | true =>
        have E5:=Lib.hid e5
        clear e5
        go_wp2_with (go_at_call 68;refine(l12Task_calls p s i P Q A B C cp cq ca cb cc _ S (hQ.belowAll hbo) (hT.belowAll hbo) hlt (by omega) hnc hck.1 hck.2 hml).mono ?_;rintro e w2 ⟨rfl,hb2⟩;rw [E5.out])
        go_roundw
        case rel=>exact⟨i+1,by omega,by go_num,by unfold Hid;rw [range_all_succ,HA.out,E5.out];rfl,below_then hbr hbr.size hb2⟩
        case measure=>simp [intOf];omega
      ·have hall:(List.range s.tasks.length).all (taskOk p s)=true:=by have:=HA.out;rw [show i=s.tasks.length by omega] at this;exact this
       have HALL:=Lib.hid hall
       have hbody:∀ k,k<s.tasks.length→0≤(s.t k).body∧(s.t k).body<p.bodies.length:=fun k hk=>by
        have:=(tinv_iff p s (s.t k)).1 ((taskOk_iff p s k).1 (allRange.1 hall k hk)).1
        exact this.body
       clear hall
       cases e6:cellsOk s with
       | false =>
        have E6:=Lib.hid e6
        clear e6
        go_wp2_with (go_at_call 69;refine(l12Cells_calls s A B C ca cb cc _ S (hC.belowAll hbo) (hT.belowAll hbo)).mono ?_;rintro e w2 ⟨rfl,hb2⟩;rw [E6.out])
        go_ret
        exact⟨ret_bool (by rw [hHP.out,HALL.out,E6.out];rfl),below_then hbo hbo.size hb2⟩
       | true =>
        have E6:=Lib.hid e6
        clear e6
        go_wp2_with (first | (go_at_call 69;refine(l12Cells_calls s A B C ca cb cc _ S (hC.belowAll hbo) (hT.belowAll hbo)).mono ?_;rintro e w2 ⟨rfl,hb2⟩;rw [E6.out];have qq:=below_then hbr hbr.size hb2;have hb2w:=below_then hbo hbo.size hb2;have xs0:=(qq.cell (p:=⟨w.heap.size+1,0,none⟩) hs).trans bs0;have xs1:=(qq.cell (p:=⟨w.heap.size+1,1,none⟩) hs).trans bs1;have xs2:=(qq.cell (p:=⟨w.heap.size+1,2,none⟩) hs).trans bs2;have xs3:=(qq.cell (p:=⟨w.heap.size+1,3,none⟩) hs).trans bs3;have xp0:=(qq.cell (p:=⟨w.heap.size,0,none⟩) hp).trans bp0;have xp1:=(qq.cell (p:=⟨w.heap.size,1,none⟩) hp).trans bp1) | (go_at_call 70;refine(l12Log_calls p s P Q A B C cp cq ca cb cc _ S (hQ.belowAll hb2w) (hT.belowAll hb2w) (hL.belowAll hb2w) hnc hbody).mono ?_;rintro e w3 ⟨rfl,hb3⟩))
        go_ret
        exact⟨ret_bool (by rw [hHP.out,HALL.out,E6.out];rfl),below_then hb2w hb2w.size hb3⟩
end Go.Proofs.YtjacjafmimgfcaaGreat
namespace Go.Proofs.YtjacjafmimgfcaaGreat
open Go.RowKit
attribute [local go_sem ↓] Go.wp_at_zero Go.wp_at_succ
def LRun (w0:World) (b1:Nat) (p:Prog) (s:Sys) (turns:List Int) (n:Nat) (wr:World):Prop :=
 ∃ A B C ca cb cc,wr.heap[b1]?=some (.cells #[.slice A (runS p s (turns.take n)).cells.length ca,.slice B (runS p s (turns.take n)).tasks.length cb,.int .i64 (runS p s (turns.take n)).clock,.slice C (runS p s (turns.take n)).log.length cc] 45 (0,0))∧SysR wr (fun k=>k<wr.heap.size∧w0.heap.size≤k) (runS p s (turns.take n)) A B C∧Keep (fun k=>k=b1) w0 wr
theorem LRun.store {w0 wr w2:World}{b1:Nat}{p:Prog}{s:Sys}{turns:List Int}{n:Nat}(hb1:b1<w0.heap.size){x0 x1 x2 x3:Value}(hq:wr.heap[b1]?=some (.cells #[x0,x1,x2,x3] 45 (0,0)))(hk:Keep (fun k=>k=b1) w0 wr)(hb:Below wr.heap.size wr w2){A B C:Option Addr}(ca cb cc:Nat){s':Sys}(hs:s'=runS p s (turns.take n))
  (hR:SysR w2 (fun k=>k<w2.heap.size∧((k<wr.heap.size∧w0.heap.size≤k)∨wr.heap.size≤k)) s' A B C) :
  LRun w0 b1 p s turns n ((((w2.setCell ⟨b1,0,none⟩ (.slice A s'.cells.length ca)).setCell ⟨b1,1,none⟩ (.slice B s'.tasks.length cb)).setCell ⟨b1,2,none⟩ (.int .i64 s'.clock)).setCell ⟨b1,3,none⟩ (.slice C s'.log.length cc)):=by
 subst hs
 have hbl:b1<wr.heap.size:=(Array.getElem?_eq_some_iff.1 hq).1
 have q:=heap_set_at (i:=3) (heap_set_at (i:=2) (heap_set_at (i:=1) (heap_set_at (i:=0) ((hb.block b1 hbl).trans hq) (.slice A (runS p s (turns.take n)).cells.length ca)) (.slice B (runS p s (turns.take n)).tasks.length cb)) (.int .i64 (runS p s (turns.take n)).clock)) (.slice C (runS p s (turns.take n)).log.length cc)
 simp only [List.setIfInBounds_toArray,List.set_cons_zero,List.set_cons_succ] at q
 have h0:=hk.size
 refine⟨A,B,C,ca,cb,cc,q,?_,?_⟩
 ·refine(hR.step (fun k h1 h2=>?_)).mono (fun k h=>by have:=h.2;simp;omega)
  iterate 4 (refine(Below.heap_setCell _ _ _ _ (fun e=>by have h3:=h1.2;simp at e;omega)).trans ?_)
  rfl
 ·have h1:Keep (fun k=>k=b1) w0 w2:=hk.trans (Keep.of_belowAll _ hb)
  exact(((h1.setCell (p:=⟨b1,0,none⟩) (fun _=>rfl) _).setCell (p:=⟨b1,1,none⟩) (fun _=>rfl) _).setCell (p:=⟨b1,2,none⟩) (fun _=>rfl) _).setCell (p:=⟨b1,3,none⟩) (fun _=>rfl) _
theorem sysRun_good (p:Prog)(s:Sys)(turns:List Int)(P Q A B C T:Option Addr)(cp cq ca cb cc ct:Nat)(w:World)(S:Nat→Prop)(hP:Row Kd.int w S P p.cells)(hQ:Row (Kd.slice kAct) w S Q p.bodies)(hR:SysR w S s A B C)(hT:Row Kd.int w S T turns)(hSS:∀ k,S k→k<w.heap.size)
  (hok:sysOk p s=true) (hlen:turns.length≤300) (hlg:s.log.length≤100000) :
  Calls Tryz.prog 101 #[.agg #[.slice P p.cells.length cp,.slice Q p.bodies.length cq],.agg #[.slice A s.cells.length ca,.slice B s.tasks.length cb,.int .i64 s.clock,.slice C s.log.length cc],.slice T turns.length ct] w (DoPost w S (runS p s turns) true):=by
 have HR:=Lib.hid hR
 have HPQ:=Lib.hid (And.intro hP hQ)
 have HT:=Lib.hid hT
 have HO:=Lib.hid (RunOk.start hok hlg)
 have HK:=Lib.hid hok
 have x2:((turns.length:Int) > 300)=False:=by simp;omega
 have x2':decide ((turns.length:Int) > 300)=false:=by simp;omega
 clear hR hP hQ hT hok
 obtain⟨W,HW⟩:∃ W,W=((w.alloc (.cells #[.slice P p.cells.length cp,.slice Q p.bodies.length cq] 39)).alloc (.cells #[.slice A s.cells.length ca,.slice B s.tasks.length cb,.int .i64 s.clock,.slice C s.log.length cc] 45)).alloc (.cells #[.slice none 0 0,.slice none 0 0,.int .i64 0,.slice none 0 0] 45):=⟨_,rfl⟩
 have hbW:Below w.heap.size w W:=by rw [HW];exact((alB w _).alloc (by simp) _).alloc (by simp;try omega) _
 have hz:W.heap.size=w.heap.size+1+1+1:=by rw [HW];simp
 have hW0:W.heap[w.heap.size]?=some (.cells #[.slice P p.cells.length cp,.slice Q p.bodies.length cq] 39 (0,0)):=by
  rw [HW];exact((alB _ _).block _ (by simp;try omega)).trans (((alB _ _).block _ (by simp)).trans (heap_alloc_new _ _))
 have hW1:W.heap[w.heap.size+1]?=some (.cells #[.slice A s.cells.length ca,.slice B s.tasks.length cb,.int .i64 s.clock,.slice C s.log.length cc] 45 (0,0)):=by
  rw [HW]
  have h1:=heap_alloc_new (w.alloc (.cells #[.slice P p.cells.length cp,.slice Q p.bodies.length cq] 39)) (.cells #[.slice A s.cells.length ca,.slice B s.tasks.length cb,.int .i64 s.clock,.slice C s.log.length cc] 45 (0,0))
  simp only [World.size_alloc] at h1
  exact((alB _ _).block _ (by simp)).trans h1
 have hW2:W.heap[w.heap.size+1+1]?=some (.cells #[.slice none 0 0,.slice none 0 0,.int .i64 0,.slice none 0 0] 45 (0,0)):=by
  rw [HW]
  have h1:=heap_alloc_new ((w.alloc (.cells #[.slice P p.cells.length cp,.slice Q p.bodies.length cq] 39)).alloc (.cells #[.slice A s.cells.length ca,.slice B s.tasks.length cb,.int .i64 s.clock,.slice C s.log.length cc] 45)) (.cells #[.slice none 0 0,.slice none 0 0,.int .i64 0,.slice none 0 0] 45 (0,0))
  simp only [World.size_alloc] at h1
  exact h1
 go_enter Tryz.func101,Tryz.ntmps101
 go_wp2_with (first | (go_at_call 30;go_must (rw [← HW];refine(specSysOk_calls p s P Q A B C cp cq ca cb cc W S (HPQ.out.1.belowAll hbW) (HPQ.out.2.belowAll hbW) (HR.out.below hbW)).mono ?_;rintro e w2 ⟨rfl,hb2⟩;rw [HK.out];have hz2:=hb2.size;have q1:=(hb2.block (w.heap.size+1) (by omega)).trans hW1;have i0:=cell_of_row _ _ 0 _ _ _ q1;have i1:=cell_of_row _ _ 1 _ _ _ q1;have i2:=cell_of_row _ _ 2 _ _ _ q1;have i3:=cell_of_row _ _ 3 _ _ _ q1;simp at i0 i1 i2 i3;have hbw2:=below_then hbW hbW.size hb2)) | (go_at_call 103;go_must (refine(l11Copy_calls s A B C ca cb cc w2 S (HR.out.below hbw2) (fun k h=>Nat.lt_of_lt_of_le (hSS k h) hbw2.size) HO.out.inv.few.c (by have:=HO.out.tasks;omega) (by omega) HO.out.inv.few.t HO.out.inv.few.l).mono ?_;rintro e w3 ⟨R,vc,vt,vl,ts,es,rfl,hS3,hb3⟩;obtain⟨A3,B3,C3,ca3,cb3,cc3,e1,e2,e3,_,_,_,hSR⟩:=hS3.read;subst e1;subst e2;subst e3;have hz3:=hb3.size;clear i0 i1 i2 i3;have r1:=(hb3.block (w.heap.size+1) (by omega)).trans q1;have i0:=cell_of_row _ _ 0 _ _ _ r1;have i1:=cell_of_row _ _ 1 _ _ _ r1;have i2:=cell_of_row _ _ 2 _ _ _ r1;have i3:=cell_of_row _ _ 3 _ _ _ r1;have jf:=fun i=>frozen_of_row _ _ i _ _ r1;simp at i0 i1 i2 i3)))
 have HL0:=Lib.hid (LRun.store (p:=p) (s:=s) (turns:=turns) (n:=0) (by omega) q1 (Keep.of_belowAll _ hb2) hb3 ca3 cb3 cc3 rfl (hSR.mono (fun k hk=>⟨hS3.lt k hk,.inr (hS3.ge k hk)⟩)))
 clear hSR hS3 q1 r1 i0 i1 i2 i3 jf hb2 hb3 hbw2
 go_loopw [8] (fun i wr=>∃ n:Nat,n≤turns.length∧i=.int .i64 n∧LRun W (w.heap.size+1) p s turns n wr) (fun i _=>turns.length-(intOf i).toNat)
 case atStart=>exact⟨0,Nat.zero_le _,rfl,HL0.out⟩
 case round =>
  obtain⟨n,hnl,rfl,hL⟩:=hrel
  obtain⟨A1,B1,C1,ca1,cb1,cc1,hq,hSr,hKp⟩:=hL
  have hN:=RunOk.run (turns.take n) HO.out
  have hN1:=hN.tasks
  have hN2:=hN.mass
  have hN3:=hN.log
  simp only [List.length_take] at hN1 hN2 hN3
  obtain⟨Y,hY⟩:∃ Y,Y=runS p s (turns.take n):=⟨_,rfl⟩
  have hNI:Hid (SInv p Y):=Lib.hid (by rw [hY];exact hN.inv)
  have HNX:Hid (∀ (h:n<turns.length),(doS p Y turns[n]).getD Y=runS p s (turns.take (n+1))):=Lib.hid (fun h=>by rw [hY];exact(run_next p s turns n h).symm)
  have HFIN:Hid (n=turns.length→Y=runS p s turns):=Lib.hid (fun h=>by rw [hY,h,List.take_length])
  rw [← hY] at hq hSr hN1 hN2 hN3
  clear hY
  clear hN HL0
  have r0:=hKp.blk hW0 (by omega)
  have r2:=hKp.blk hW2 (by omega)
  have hzr:=hKp.size
  have p0:=cell_of_row _ _ 0 _ _ _ r0
  have p1:=cell_of_row _ _ 1 _ _ _ r0
  have s0:=cell_of_row _ _ 0 _ _ _ hq
  have s1:=cell_of_row _ _ 1 _ _ _ hq
  have s2:=cell_of_row _ _ 2 _ _ _ hq
  have s3:=cell_of_row _ _ 3 _ _ _ hq
  have sf:=fun i=>frozen_of_row _ _ i _ _ hq
  simp at p0 p1 s0 s1 s2 s3
  by_cases hlt:n<turns.length
  ·obtain⟨bt,ot,eT,hbt,c0,_,hSb⟩:=int_lit ((HT.out.belowAll hbW).keep hKp (fun k h1 _ h2=>by have:=hSS k h1;omega)) hlt
   subst eT
   have hbtl:=hSS _ hSb
   have y1:(n:Int)<turns.length:=by omega
   have y3:(0:Int)≤n:=by omega
   have HQr:=Lib.hid ((HPQ.out.2.belowAll hbW).keep hKp (fun k h1 _ h2=>by have:=hSS k h1;omega))
   have HH:=Lib.hid (And.intro hq (And.intro hSr hKp))
   clear hq hSr hKp r0 r2 hW0 hW1 hW2
   go_wp2_with fail
   refine wp_region_noPanic ?_
   refine wp_region_headw 7 (fun w'=>w'.cell? ⟨w.heap.size,0,none⟩=some (.slice P p.cells.length cp)∧w'.cell? ⟨w.heap.size,1,none⟩=some (.slice Q p.bodies.length cq)∧w'.cell? ⟨w.heap.size+1,0,none⟩=some (.slice A1 Y.cells.length ca1)∧w'.cell? ⟨w.heap.size+1,1,none⟩=some (.slice B1 Y.tasks.length cb1)∧w'.cell? ⟨w.heap.size+1,2,none⟩=some (.int .i64 Y.clock)∧w'.cell? ⟨w.heap.size+1,3,none⟩=some (.slice C1 Y.log.length cc1)∧w'.cell? ⟨bt,ot+n,none⟩=some (.int .i64 turns[n])) (fun _=>True) (by kernel_rfl) (by kernel_rfl) (by (try dsimp only)<;>(first | (go_keep;done) | (go_split_ands;exact⟨v0,v1,v2,v3,v4,v5,v6⟩))) (fun hHeld=>?_)
   refine heaw_take (i:=0) (v:=_) (by kernel_rfl) rfl (by kernel_rfl) (by kernel_rfl) (by kernel_rfl) (fun _ _ _ h=>h) (Or.inl ⟨by rfl,by (intro w hSw;(try dsimp only at hSw);go_simp<;>with_reducible rfl)⟩) (by assumption) ?_
   (try simp only [q1,q2,q3,Act.put,q4,q5,q6])
   refine heaw_take (i:=1) (v:=_) (by kernel_rfl) rfl (by kernel_rfl) (by kernel_rfl) (by kernel_rfl) (fun _ _ _ h=>h) (Or.inl ⟨by rfl,by (intro w hSw;(try dsimp only at hSw);go_simp<;>with_reducible rfl)⟩) (by assumption) ?_
   (try simp only [q1,q2,q3,Act.put,q4,q5,q6])
   refine heaw_take (i:=2) (v:=_) (by kernel_rfl) rfl (by kernel_rfl) (by kernel_rfl) (by kernel_rfl) (fun _ _ _ h=>h) (Or.inl ⟨by rfl,by (intro w hSw;(try dsimp only at hSw);go_simp<;>with_reducible rfl)⟩) (by assumption) ?_
   (try simp only [q1,q2,q3,Act.put,q4,q5,q6])
   refine heaw_take (i:=3) (v:=_) (by kernel_rfl) rfl (by kernel_rfl) (by kernel_rfl) (by kernel_rfl) (fun _ _ _ h=>h) (Or.inl ⟨by rfl,by (intro w hSw;(try dsimp only at hSw);go_simp<;>with_reducible rfl)⟩) (by assumption) ?_
   (try simp only [q1,q2,q3,Act.put,q4,q5,q6])
   refine heaw_take (i:=4) (v:=_) (by kernel_rfl) rfl (by kernel_rfl) (by kernel_rfl) (by kernel_rfl) (fun _ _ _ h=>h) (Or.inl ⟨by rfl,by (intro w hSw;(try dsimp only at hSw);go_simp<;>with_reducible rfl)⟩) (by assumption) ?_
   (try simp only [q1,q2,q3,Act.put,q4,q5,q6])
   refine heaw_take (i:=5) (v:=_) (by kernel_rfl) rfl (by kernel_rfl) (by kernel_rfl) (by kernel_rfl) (fun _ _ _ h=>h) (Or.inl ⟨by rfl,by (intro w hSw;(try dsimp only at hSw);go_simp<;>with_reducible rfl)⟩) (by assumption) ?_
   (try simp only [q1,q2,q3,Act.put,q4,q5,q6])
   refine heaw_next (i:=6) rfl (by kernel_rfl) (by kernel_rfl) (fun Kq hKq=>?_)
   (try simp only [q1,q2,q3])
   refine step_hold (a:=⟨_,_⟩) ?_
   go_simp
   (refine(l11Do_calls p Y turns[n] P Q A1 B1 C1 cp cq ca1 cb1 cc1 _ (fun k=>k<wr.heap.size∧W.heap.size≤k) S (HQr.out.belowAll ((Below.refl _ _).drew)) (HH.out.2.1.below ((Below.refl _ _).drew)) (fun k h=>h.1) (fun k h=>by have:=hSS k h;show k<wr.heap.size;omega) hNI.out (by omega) (by omega) (by omega)).mono ?_;rintro e w2 ⟨A2,B2,C2,ca2,cb2,cc2,rfl,hS2,hb2⟩;have hb2:Below wr.heap.size wr w2:=below_then ((Below.refl _ wr).drew) (Nat.le_refl _) hb2;have v0:=(hb2.cell (p:=⟨w.heap.size,0,none⟩) (by show w.heap.size<_;omega)).trans p0;have v1:=(hb2.cell (p:=⟨w.heap.size,1,none⟩) (by show w.heap.size<_;omega)).trans p1;have v2:=(hb2.cell (p:=⟨w.heap.size+1,0,none⟩) (by show w.heap.size+1<_;omega)).trans s0;have v3:=(hb2.cell (p:=⟨w.heap.size+1,1,none⟩) (by show w.heap.size+1<_;omega)).trans s1;have v4:=(hb2.cell (p:=⟨w.heap.size+1,2,none⟩) (by show w.heap.size+1<_;omega)).trans s2;have v5:=(hb2.cell (p:=⟨w.heap.size+1,3,none⟩) (by show w.heap.size+1<_;omega)).trans s3;have v6:=(hb2.cell (p:=⟨bt,ot+n,none⟩) (by show bt<_;omega)).trans c0;have q9:=(hb2.block (w.heap.size+1) (by omega)).trans HH.out.1;have vf:=fun i=>frozen_of_row _ _ i _ _ q9;clear q9;have HD:=Lib.hid (And.intro hS2 hb2);clear hS2)
   refine hKq.out _ _ (by (try dsimp only)<;>(first | (go_keep;done) | (go_split_ands;exact⟨v0,v1,v2,v3,v4,v5,v6⟩))) (fun hHeld=>?_)
   clear hKq Kq
   (try simp only [q1,q2,q3,Act.put,q4,q5,q6])
   refine heaw_done (by kernel_rfl) ?_
   refine wpAnyH_take (i:=7) (v:=_) rfl (by kernel_rfl) (by kernel_rfl) (by kernel_rfl) (fun _ _ _ h=>h) (Or.inl ⟨by rfl,by (intro w hSw;go_simp<;>with_reducible rfl)⟩) trivial ?_
   (try simp only [q1,q2,q3,Act.put,q4,q5,q6])
   refine wpAnyH_take (i:=8) (v:=_) rfl (by kernel_rfl) (by kernel_rfl) (by kernel_rfl) (fun _ _ _ h=>h) (Or.inl ⟨by rfl,by (intro w hSw;go_simp<;>with_reducible rfl)⟩) trivial ?_
   (try simp only [q1,q2,q3,Act.put,q4,q5,q6])
   refine wpAnyH_take (i:=9) (v:=_) rfl (by kernel_rfl) (by kernel_rfl) (by kernel_rfl) (fun _ _ _ h=>h) (Or.inl ⟨by rfl,by (intro w hSw;go_simp<;>with_reducible rfl)⟩) trivial ?_
   (try simp only [q1,q2,q3,Act.put,q4,q5,q6])
   refine wpAnyH_all (rs:=[10]) (by kernel_rfl) (by simp) (fun i hi=>?_)
   obtain rfl:i=10:=by simpa using hi
   refine wpOp_step rfl (fun K' hK=>?_)
   refine step_hold (a:=⟨_,_⟩) ?_
   clear hi
   go_simp
   refine hK _ _ ⟨trivial,wpAnyH_done (by kernel_rfl) (NoPanic.normal ?_) _⟩
   clear hK K'
   have HL:=Lib.hid (LRun.store (p:=p) (s:=s) (turns:=turns) (n:=n+1) (by omega) HH.out.1 HH.out.2.2 HD.out.2 ca2 cb2 cc2 (HNX.out hlt) (HD.out.1.mono (fun k h=>by have h1:=h.1;have h2:=h.2;simp at h2;exact⟨h1,h2⟩)))
   clear HH HD hHeld v0 v1 v2 v3 v4 v5 v6 s0 s1 s2 s3 sf c0
   go_wp2_with fail
   go_roundw
   case rel=>exact⟨n+1,by omega,by go_num,HL.out⟩
   case measure=>simp [intOf];omega
  ·obtain rfl:n=turns.length:=by omega
   have t0:=cell_of_row _ _ 0 _ _ _ r2
   have t1:=cell_of_row _ _ 1 _ _ _ r2
   have t2:=cell_of_row _ _ 2 _ _ _ r2
   have t3:=cell_of_row _ _ 3 _ _ _ r2
   have tf:=fun i=>frozen_of_row _ _ i _ _ r2
   simp at t0 t1 t2 t3
   have HH:=Lib.hid (And.intro hSr hKp)
   have HF:=Lib.hid (HFIN.out rfl)
   clear hSr hKp hq r0 r2 HFIN HNX hW0 hW1 hW2
   go_wp2
   rw [← HF.out]
   have hb:=below_two hbW (Nat.le_refl _) (Nat.le_refl _) (HH.out.2.below (B:=w.heap.size) (fun k h e=>by omega) hbW.size)
   refine bodyPost_ret (v:=.tuple #[.agg #[.slice A1 Y.cells.length ca1,.slice B1 Y.tasks.length cb1,.int .i64 Y.clock,.slice C1 Y.log.length cc1],.bool true]) (by simp [results,Tryz.results101,go_sem, *]) rfl ⟨A1,B1,C1,ca1,cb1,cc1,rfl,?_,?_⟩
   ·refine(HH.out.1.step (fun q h1 h2=>?_)).mono (fun q h=>⟨by simp;exact h.1,.inr (by have:=h.2;omega)⟩)
    iterate 4 (refine(Below.heap_setCell _ _ _ _ (fun e=>by have h3:=h1.2;simp at e;omega)).trans ?_)
    rfl
   ·exact(((hb.setCell (p:=⟨w.heap.size+1+1,0,none⟩) (by simp;try omega) _).setCell (p:=⟨w.heap.size+1+1,1,none⟩) (by simp;try omega) _).setCell (p:=⟨w.heap.size+1+1,2,none⟩) (by simp;try omega) _).setCell (p:=⟨w.heap.size+1+1,3,none⟩) (by simp;try omega) _
end Go.Proofs.YtjacjafmimgfcaaGreat
namespace Go.Proofs.YtjacjafmimgfcaaGreat
open Go.RowKit
attribute [local go_sem ↓] Go.wp_at_zero Go.wp_at_succ
end Go.Proofs.YtjacjafmimgfcaaGreat
