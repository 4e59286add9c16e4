/- The reference's machine: the next step of a change; a task fails.; The reference's machine: who can take a step; the act that is next.; The reference's machine: the act that is next. -/
import Derived.Test.YtjacjafmimgfcaaGreatWau
import Derived.Test.YtjacjafmimgfcaaGreatWax
set_option maxHeartbeats 4000000
set_option maxRecDepth 100000
set_option linter.unusedVariables false
set_option linter.unusedSimpArgs false
namespace Go.Proofs.YtjacjafmimgfcaaGreat
open Go.RowKit
attribute [local go_sem ↓] Go.wp_at_zero Go.wp_at_succ
theorem fails_calls (m:Mc)(s:Sys)(vt:Value)(w:World)(k:Nat)(h:Mach m s vt w)(hk:k<s.tasks.length) :
  Calls Tryz.prog 158 #[.pointer (some ⟨m.g,0,none⟩),.int .i64 k] w (Steps m (setWay s k 3) vt):=by
 obtain⟨R,vc,vl,ts,es,H⟩:=h
 obtain⟨gt,cap,Ar,cr,Ao,co,Ad,cd,Au,cu,rfl,hx,hr,ho,hd,hu⟩:=H.at_ hk
 obtain⟨hne,hlt,hgl,_,g3,_,_,hat,hfz,_⟩:=H.see hx
 have hmax:=H.max
 have c4:=hat.c4
 have x1:(k:Int)<s.tasks.length:=by omega
 have x3:(0:Int)≤k:=by omega
 go_enter Tryz.func158,Tryz.ntmps158
 go_wp2
 go_end0
 exact⟨rfl,(H.int hx 4 (by omega) 3 { s.t k with way:=3 } rfl rfl rfl rfl rfl).mach⟩
theorem time_calls (m:Mc)(s:Sys)(vt:Value)(w:World)(k:Nat)(deeds:List Deed)(A:Option Addr)(cdd:Nat)(h:Mach m s vt w)(hk:k<s.tasks.length)(hI:SInv m.p s)(hst:(s.t k).stage=3) :
  Calls Tryz.prog 156 #[.pointer (some ⟨m.g,0,none⟩),.int .i64 k,.slice A deeds.length cdd] w (Steps m (timeS s k) vt):=by
 obtain⟨R,vc,vl,ts,es,H⟩:=h
 obtain⟨gt,cap,Ar,cr,Ao,co,Ad,cd,Au,cu,rfl,hx,hr,ho,hd,hu⟩:=H.at_ hk
 obtain⟨hne,hlt,hgl,_,g3,g4,_,hat,hfz,hfg⟩:=H.see hx
 have hmax:=H.max
 have c5:=hat.c5
 rw [hst] at c5
 have hc:=hI.clock
 have hw1:IntKind.i64.wrap (s.clock+1)=s.clock+1:=IntWalk.i64_in _ (by omega)
 have x1:(k:Int)<s.tasks.length:=by omega
 have x3:(0:Int)≤k:=by omega
 have H1:=H.clk (s.clock+1)
 have HX:=Lib.hid hx
 have H1':=Lib.hid H1
 clear H H1 hx hat hst hI
 go_enter Tryz.func156,Tryz.ntmps156
 go_wp2
 obtain⟨W,HW⟩:∃ W,W=w.setCell ⟨m.g,4,none⟩ (.int .i64 (s.clock+1)):=⟨_,rfl⟩
 have H1:=H1'.out
 rw [← HW] at H1 ⊢
 clear HW g3 g4 hfz hfg c5 H1'
 obtain⟨_,hltW,hglW,_,g3,g4,_,hat,hfz,hfg⟩:=H1.see HX.out
 have c11:=hat.c11
 have g4:W.cell? ⟨m.g,4,none⟩=some (.int .i64 (s.clock+1)):=g4
 have H2:=Lib.hid ((H1.int HX.out 11 (by omega) (s.clock+1) { s.t k with whn:=s.clock+1 } rfl rfl rfl rfl rfl).below ((Below.refl _ _).drew)).mach
 clear H1 hat
 go_still_tail 13,(by kernel_rfl)
 go_wp2_with (go_at_call 166;go_must (refine(stage_calls m _ _ _ k 4 H2.out (by rw [setT_n];exact hk)).mono ?_;rintro e w9 ⟨rfl,H9⟩))
 go_end0
 refine⟨rfl,?_⟩
 rw [setT_setT,setT_t (by exact hk)] at H9
 exact H9
structure TryCall (m:Mc) (s:Sys) (vt:Value) (w:World) (k:Nat) (deeds:List Deed) (A:Option Addr):Prop where
 h:Mach m s vt w
 hk:k<s.tasks.length
 hI:SInv m.p s
 hlg:s.log.length≤1000000000
 hpc:(s.t k).pc<(m.p.acts (s.t k).body).length
 hkd:(m.p.act (s.t k)).kind=1
 hd:deeds=(m.p.act (s.t k)).deeds
 hD:∃ S,Row kDeed w S A deeds
theorem try_calls (m:Mc)(s:Sys)(vt:Value)(w:World)(k:Nat)(deeds:List Deed)(A:Option Addr)(cdd:Nat)(HC:TryCall m s vt w k deeds A) :
  Calls Tryz.prog 156 #[.pointer (some ⟨m.g,0,none⟩),.int .i64 k,.slice A deeds.length cdd] w (Steps m (tryS s k deeds) vt):=by
 obtain⟨h,hk,hI,hlg,hpc,hkd,hde,hD⟩:=HC
 have HM:=Lib.hid h
 have hT:=hI.t k hk
 have hdd:=act_deeds hI.prog hI.cl hT hpc hkd
 have hreg:=(hI.small hk).regs
 have HI:=Lib.hid hI
 have HD:=Lib.hid hD
 have HR:=Lib.hid (show (s.t k).regs.length≤1000000 by omega)
 obtain⟨R,vc,vl,ts,es,H⟩:=h
 obtain⟨gt,cap,Ar,cr,Ao,co,Ad,cd,Au,cu,rfl,hx,hr,ho,hd,hu⟩:=H.at_ hk
 obtain⟨hne,hlt,hgl,_,g3,_,_,hat,hfz,_⟩:=H.see hx
 have hmax:=H.max
 have c5:=hat.c5
 have x1:(k:Int)<s.tasks.length:=by omega
 have x3:(0:Int)≤k:=by omega
 have hs5:(s.t k).stage=0∨(s.t k).stage=1∨(s.t k).stage=2∨(s.t k).stage=3∨(s.t k).stage=4∨(s.t k).stage=5:=by have:=hT.stage;omega
 have hts:tryS s k deeds=if (s.t k).stage=0 then beginS s k else if (s.t k).stage=1 then deedS s k deeds else if (s.t k).stage=2 then lockS s k else if (s.t k).stage=3 then timeS s k else if (s.t k).stage=4 then checkS s k else writeS s k:=rfl
 rw [hts]
 clear hts hat H
 rcases hs5 with e | e | e | e | e | e
 ·rw [e] at c5
  rw [if_pos e]
  clear e hde hdd hreg hT hI hkd hD
  go_enter Tryz.func156,Tryz.ntmps156
  go_wp2_with (go_at_call 163;go_must (refine(begin_calls m s _ _ k HM.out hk HR.out).mono ?_;rintro e w3 ⟨rfl,H3⟩))
  go_end0
  exact⟨rfl,H3⟩
 ·rw [e] at c5
  rw [if_neg (by omega),if_pos e]
  have hs1:=hT.s1 e
  have HDC:Hid (DeedCall m s (.slice (some ⟨gt,0,none⟩) s.tasks.length cap) w k deeds A):=Lib.hid ⟨HM.out,hk,hI,e,hs1.1,by rw [hde];exact hs1.2.1,by rw [hde];omega,hlg,HD.out,fun d hd=>hdd.1 d (by rw [← hde];exact hd)⟩
  clear e hde hdd hreg hT hI hkd hs1 hD
  go_enter Tryz.func156,Tryz.ntmps156
  go_wp2_with (go_at_call 164;go_must (refine(deed_calls m s _ _ k deeds A cdd HDC.out).mono ?_;rintro e w3 ⟨rfl,H3⟩))
  go_end0
  exact⟨rfl,H3⟩
 ·rw [e] at c5
  rw [if_neg (by omega),if_neg (by omega),if_pos e]
  have HE:=Lib.hid e
  clear e hde hdd hreg hT hI hkd hD
  go_enter Tryz.func156,Tryz.ntmps156
  go_wp2_with (go_at_call 165;go_must (refine(lock_calls m s _ _ k HM.out hk HI.out HE.out).mono ?_;rintro e w3 ⟨rfl,H3⟩))
  go_end0
  exact⟨rfl,H3⟩
 ·rw [if_neg (by omega),if_neg (by omega),if_neg (by omega),if_pos e]
  exact time_calls m s _ w k deeds A cdd HM.out hk HI.out e
 ·rw [e] at c5
  rw [if_neg (by omega),if_neg (by omega),if_neg (by omega),if_neg (by omega),if_pos e]
  have HE:=Lib.hid e
  clear e hde hdd hreg hT hI hkd hD
  go_enter Tryz.func156,Tryz.ntmps156
  go_wp2_with (go_at_call 167;go_must (refine(check_calls m s _ _ k HM.out hk HI.out HE.out).mono ?_;rintro e w3 ⟨rfl,H3⟩))
  go_end0
  exact⟨rfl,H3⟩
 ·rw [e] at c5
  rw [if_neg (by omega),if_neg (by omega),if_neg (by omega),if_neg (by omega),if_neg (by omega)]
  have HE:=Lib.hid e
  clear e hde hdd hreg hT hI hkd hD
  go_enter Tryz.func156,Tryz.ntmps156
  go_wp2_with (go_at_call 168;go_must (refine(write_calls m s _ _ k HM.out hk HI.out HE.out hlg).mono ?_;rintro e w3 ⟨rfl,H3⟩))
  go_end0
  exact⟨rfl,H3⟩
end Go.Proofs.YtjacjafmimgfcaaGreat
namespace Go.Proofs.YtjacjafmimgfcaaGreat
open Go.RowKit
attribute [local go_sem ↓] Go.wp_at_zero Go.wp_at_succ
theorem task_lit {w:World}{S:Nat→Prop}{A:Option Addr}{xs:List Task}{j:Nat}(h:Row kTask w S A xs)(hj:j<xs.length):∃ b o Ar Ao Ad Au cr co cd cu,A=some ⟨b,o,none⟩∧b<w.heap.size∧TaskRows w S xs[j] Ar Ao Ad Au cr co cd cu ∧
  TaskAt w ⟨b,o+j*13,none⟩ xs[j] (.slice Ar xs[j].regs.length cr) (.slice Ao xs[j].old.length co) (.slice Ad xs[j].reads.length cd) (.slice Au xs[j].puts.length cu):=by
 obtain⟨b,o,rfl,_,hl⟩:=h.lit (by decide) (by omega)
 obtain⟨ad,Ar,Ao,Ad,Au,cr,co,cd,cu,e,_,hr,hat⟩:=at_task h hj
 injection e with e
 subst e
 rw [add_lit] at hat
 exact⟨b,o,Ar,Ao,Ad,Au,cr,co,cd,cu,rfl,hl,hr,hat⟩
theorem slice_lit {α:Type}{d:Kd α}{w:World}{S:Nat→Prop}{A:Option Addr}{xs:List (List α)}{j:Nat}(h:Row (Kd.slice d) w S A xs)(hj:j<xs.length):∃ b o E c,A=some ⟨b,o,none⟩∧b<w.heap.size∧w.cell? ⟨b,o+j,none⟩=some (.slice E xs[j].length c)∧xs[j].length≤c∧Row d w S E xs[j]:=by
 obtain⟨b,o,rfl,_,hl⟩:=h.lit (by show 0<1;omega) (by omega)
 obtain⟨ad,E,c,e,_,hc,hcl,hr⟩:=at_slice h hj
 injection e with e
 subst e
 rw [add_lit] at hc
 exact⟨b,o,E,c,rfl,hl,hc,hcl,hr⟩
theorem act_lit {w:World}{S:Nat→Prop}{A:Option Addr}{xs:List Act}{j:Nat}(h:Row kAct w S A xs)(hj:j<xs.length):∃ b o F cf K ck,A=some ⟨b,o,none⟩∧b<w.heap.size∧w.cell? ⟨b,o+j*4,none⟩=some (.int .i64 xs[j].kind)∧w.cell? ⟨b,o+j*4+1,none⟩=some (.slice F xs[j].deeds.length cf) ∧
  w.cell? ⟨b,o+j*4+2,none⟩=some (.slice K xs[j].kids.length ck)∧w.cell? ⟨b,o+j*4+3,none⟩=some (.int .i64 xs[j].reg)∧Row kDeed w S F xs[j].deeds∧Row Kd.int w S K xs[j].kids:=by
 obtain⟨b,o,rfl,_,hl⟩:=h.lit (by decide) (by omega)
 obtain⟨ad,F,cf,K,ck,e,_,c0,c1,c2,c3,_,_,hF,hK,_⟩:=at_act h hj
 injection e with e
 subst e
 simp only [add_lit] at c0 c1 c2 c3
 exact⟨b,o,F,cf,K,ck,rfl,hl,c0,c1,c2,c3,hF,hK⟩
theorem kidsOf_pos (s:Sys)(k:Nat)(way:Int):anyKid s k (fun t=>decide (t.way=way))=decide (0<kidsOf s k way):=by
 unfold anyKid kidsOf
 rw [Bool.eq_iff_iff]
 simp only [List.any_eq_true,decide_eq_true_eq]
 constructor
 ·rintro ⟨t,ht,h⟩
  have:0<(s.tasks.filter fun t=>decide (t.up=(k:Int)) && decide (t.way=way)).length:=List.length_pos_of_mem (List.mem_filter.2 ⟨ht,h⟩)
  omega
 ·intro h
  have h2:0<(s.tasks.filter fun t=>decide (t.up=(k:Int)) && decide (t.way=way)).length:=by omega
  obtain⟨t,ht⟩:=List.exists_mem_of_length_pos h2
  exact⟨t,(List.mem_filter.1 ht).1,(List.mem_filter.1 ht).2⟩
theorem anyKid_or (s:Sys)(k:Nat):anyKid s k isLive=(anyKid s k (fun t=>decide (t.way=0)) || anyKid s k (fun t=>decide (t.way=1))):=by
 unfold anyKid isLive
 rw [Bool.eq_iff_iff]
 simp only [List.any_eq_true,Bool.or_eq_true,Bool.and_eq_true,decide_eq_true_eq]
 constructor
 ·rintro ⟨t,ht,h1,h2 | h2⟩
  ·exact .inl ⟨t,ht,h1,h2⟩
  ·exact .inr ⟨t,ht,h1,h2⟩
 ·rintro (⟨t,ht,h1,h2⟩ | ⟨t,ht,h1,h2⟩)
  ·exact⟨t,ht,h1,.inl h2⟩
  ·exact⟨t,ht,h1,.inr h2⟩
theorem ready_calls (s:Sys)(g:Nat)(B:Option Addr)(cb:Nat)(k:Nat)(w:World)(S:Nat→Prop)(hT:Row kTask w S B s.tasks)(h3:w.cell? ⟨g,3,none⟩=some (.slice B s.tasks.length cb))(h4:w.cell? ⟨g,4,none⟩=some (.int .i64 s.clock))(hk:k<s.tasks.length)(hn:s.tasks.length≤1000000) :
  Calls Tryz.prog 143 #[.pointer (some ⟨g,0,none⟩),.int .i64 k] w fun e w'=>e=.returned (.bool (readyS s k))∧Below w.heap.size w w':=by
 have hg:g<w.heap.size:=block_lt_of_cell h3
 obtain⟨bt,ot,Ar,Ao,Ad,Au,cr,co,cd,cu,rfl,hbt,_,hat⟩:=task_lit hT hk
 rw [← sys_t hk] at hat
 have c0:=hat.c0;have c1:=hat.c1;have c2:=hat.c2;have c3:=hat.c3;have c4:=hat.c4;have c5:=hat.c5;have c6:=hat.c6;have c7:=hat.c7;have c8:=hat.c8;have c9:=hat.c9;have c10:=hat.c10;have c11:=hat.c11;have c12:=hat.c12
 have x1:(k:Int)<s.tasks.length:=by omega
 have x3:(0:Int)≤k:=by omega
 have hb:=fun o=>alB w o
 have hrs:readyS s k=(decide (s.clock<200) && (if (s.t k).way=0 then decide ((s.t k).stage≠0) || decide ((s.t k).whn≤s.clock) else if (s.t k).way=1 then decide (0<kidsOf s k 3) || !(decide (0<kidsOf s k 0) || decide (0<kidsOf s k 1)) else false)):=by
  unfold readyS;rw [anyKid_or,kidsOf_pos,kidsOf_pos,kidsOf_pos]
 have HR:=Lib.hid hrs
 have hk3:=kidsOf_bound s k 3
 have hk0:=kidsOf_bound s k 0
 have hk1:=kidsOf_bound s k 1
 have HT:=Lib.hid (fun o=>hT.belowAll (alB w o))
 have H3:=Lib.hid (fun o=>((alB w o).cell (p:=⟨g,3,none⟩) hg).trans h3)
 clear hrs hat
 by_cases hc:s.clock<200
 rotate_left
 ·have a1:decide (s.clock ≥ 200)=true:=by simp;omega
  have HC:=Lib.hid hc
  clear hc
  go_enter Tryz.func143,Tryz.ntmps143
  go_wp2
  go_ret
  exact⟨ret_bool (by rw [HR.out,decide_eq_false (by have:=HC.out;omega),Bool.false_and]),hb _⟩
 have a1:decide (s.clock ≥ 200)=false:=by simp;omega
 have HC:=Lib.hid hc
 clear hc
 by_cases w0:(s.t k).way=0
 ·have b0:((s.t k).way == 0)=true:=by simp [w0]
  have W0:=Lib.hid w0
  clear w0
  by_cases e1:(s.t k).stage=0
  ·have a2:((s.t k).stage != 0)=false:=by simp [e1]
   have E1:=Lib.hid e1
   clear e1
   by_cases e2:(s.t k).whn≤s.clock
   ·have a3:decide ((s.t k).whn≤s.clock)=true:=by simpa using e2
    have E2:=Lib.hid e2
    clear e2
    go_enter Tryz.func143,Tryz.ntmps143
    go_wp2
    go_quiet (fail)
    go_wp2
    go_ret
    exact⟨ret_bool (by rw [HR.out,decide_eq_true HC.out,if_pos W0.out,decide_eq_true E2.out];simp),by repeat' (first | exact hb _ | apply below_drewN1)⟩
   ·have a3:decide ((s.t k).whn≤s.clock)=false:=by simp;omega
    have E2:=Lib.hid e2
    clear e2
    go_enter Tryz.func143,Tryz.ntmps143
    go_wp2
    go_quiet (fail)
    go_wp2
    go_ret
    exact⟨ret_bool (by rw [HR.out,decide_eq_true HC.out,if_pos W0.out,decide_eq_false (show ¬ (s.t k).whn≤s.clock by have:=E2.out;omega),E1.out];rfl),by repeat' (first | exact hb _ | apply below_drewN1)⟩
  ·have a2:((s.t k).stage != 0)=true:=bne_iff_ne.2 e1
   have E1:=Lib.hid e1
   clear e1
   go_enter Tryz.func143,Tryz.ntmps143
   go_wp2
   go_quiet (fail)
   go_wp2
   go_ret
   exact⟨ret_bool (by rw [HR.out,decide_eq_true HC.out,if_pos W0.out,decide_eq_true (show (s.t k).stage≠0 from E1.out)];rfl),by repeat' (first | exact hb _ | apply below_drewN1)⟩
 have b0:((s.t k).way == 0)=false:=by simp [w0]
 have W0:=Lib.hid w0
 clear w0
 by_cases w1:(s.t k).way=1
 ·have b1:((s.t k).way == 1)=true:=by simp [w1]
  have W1:=Lib.hid w1
  clear w1
  have tok1:True:=trivial
  have tok2:True:=trivial
  by_cases e3:0<kidsOf s k 3
  ·have a3:decide (kidsOf s k 3 > 0)=true:=by simpa using e3
   have E3:=Lib.hid e3
   clear e3
   go_enter Tryz.func143,Tryz.ntmps143
   go_wp2_with (go_at_call 147;go_must (refine(kids_calls s g _ _ k 3 _ _ (HT.out _) (H3.out _)).mono ?_;rintro e w2 ⟨rfl,rfl⟩))
   go_ret
   exact⟨ret_bool (by rw [HR.out,decide_eq_true HC.out,if_neg W0.out,if_pos W1.out,decide_eq_true E3.out];rfl),hb _⟩
  ·have a3:decide (kidsOf s k 3 > 0)=false:=by simp;omega
   have E3:=Lib.hid e3
   clear e3
   by_cases e4:kidsOf s k 0+kidsOf s k 1=0
   ·have a4:(kidsOf s k 0+kidsOf s k 1 == 0)=true:=by simp [e4]
    have E4:=Lib.hid e4
    clear e4
    go_enter Tryz.func143,Tryz.ntmps143
    go_wp2_with (first
     | (go_at_call 147;have _t:=tok1;refine(kids_calls s g _ _ k 3 _ _ (HT.out _) (H3.out _)).mono ?_;rintro e w2 ⟨rfl,rfl⟩;clear tok1) | (go_at_call 147;have _t:=tok2;refine(kids_calls s g _ _ k 0 _ _ (HT.out _) (H3.out _)).mono ?_;rintro e w2 ⟨rfl,rfl⟩;clear tok2) | (go_at_call 147;refine(kids_calls s g _ _ k 1 _ _ (HT.out _) (H3.out _)).mono ?_;rintro e w2 ⟨rfl,rfl⟩))
    go_ret
    exact⟨ret_bool (by rw [HR.out,decide_eq_true HC.out,if_neg W0.out,if_pos W1.out,decide_eq_false (show ¬ 0<kidsOf s k 3 by have:=E3.out;omega),decide_eq_false (show ¬ 0<kidsOf s k 0 by have:=E4.out;omega),decide_eq_false (show ¬ 0<kidsOf s k 1 by have:=E4.out;omega)];rfl),hb _⟩
   ·have a4:(kidsOf s k 0+kidsOf s k 1 == 0)=false:=by simp [e4]
    have E4:=Lib.hid e4
    clear e4
    go_enter Tryz.func143,Tryz.ntmps143
    go_wp2_with (first
     | (go_at_call 147;have _t:=tok1;refine(kids_calls s g _ _ k 3 _ _ (HT.out _) (H3.out _)).mono ?_;rintro e w2 ⟨rfl,rfl⟩;clear tok1) | (go_at_call 147;have _t:=tok2;refine(kids_calls s g _ _ k 0 _ _ (HT.out _) (H3.out _)).mono ?_;rintro e w2 ⟨rfl,rfl⟩;clear tok2) | (go_at_call 147;refine(kids_calls s g _ _ k 1 _ _ (HT.out _) (H3.out _)).mono ?_;rintro e w2 ⟨rfl,rfl⟩))
    go_ret
    exact⟨ret_bool (by
     rw [HR.out,decide_eq_true HC.out,if_neg W0.out,if_pos W1.out,decide_eq_false (show ¬ 0<kidsOf s k 3 by have:=E3.out;omega)]
     have:0<kidsOf s k 0∨0<kidsOf s k 1:=by have:=E4.out;omega
     rcases this with h | h<;>simp [h]),hb _⟩
 ·have b1:((s.t k).way == 1)=false:=by simp [w1]
  have W1:=Lib.hid w1
  clear w1
  go_enter Tryz.func143,Tryz.ntmps143
  go_wp2
  go_ret
  exact⟨ret_bool (by rw [HR.out,if_neg W0.out,if_neg W1.out,Bool.and_false]),hb _⟩
end Go.Proofs.YtjacjafmimgfcaaGreat
namespace Go.Proofs.YtjacjafmimgfcaaGreat
open Go.RowKit
attribute [local go_sem ↓] Go.wp_at_zero Go.wp_at_succ
def actV (a:Act) (F K:Option Addr) (cf ck:Nat):Value:=.agg #[.int .i64 a.kind,.slice F a.deeds.length cf,.slice K a.kids.length ck,.int .i64 a.reg]
def noActV:Value:=.agg #[.int .i64 0,.slice none 0 0,.slice none 0 0,.int .i64 0]
theorem act_yes (m:Mc)(s:Sys)(vt:Value)(w:World)(k:Nat)(h:Mach m s vt w)(hk:k<s.tasks.length)(hb0:0≤(s.t k).body)(hb1:(s.t k).body<m.p.bodies.length)(hp0:0≤(s.t k).pc)(hp1:(s.t k).pc<(m.p.acts (s.t k).body).length) :
  Calls Tryz.prog 154 #[.pointer (some ⟨m.g,0,none⟩),.int .i64 k] w fun e w'=>(∃ F cf K ck,e=.returned (.tuple #[actV (m.p.act (s.t k)) F K cf ck,.bool true])∧Row kDeed w' (fun k=>k<m.base) F (m.p.act (s.t k)).deeds∧Row Kd.int w' (fun k=>k<m.base) K (m.p.act (s.t k)).kids)∧Below w.heap.size w w':=by
 obtain⟨R,vc,vl,ts,es,H⟩:=h
 obtain⟨gt,cap,Ar,cr,Ao,co,Ad,cd,Au,cu,rfl,hx,_,_,_,_⟩:=H.at_ hk
 obtain⟨hne,hlt,hgl,_,g3,_,_,hat,hfz,_⟩:=H.see hx
 have g1:=H.cells.2.1
 have hmax:=H.max
 have hbl:(s.t k).body.toNat<m.p.bodies.length:=by omega
 have hbm:=H.prg.1
 have hacts:m.p.acts (s.t k).body=m.p.bodies[(s.t k).body.toNat]:=by unfold Prog.acts;exact getD_at _ _ _ hbl
 obtain⟨bq,oq,E,ce,eQ,hbq,hq,hqc,hE⟩:=slice_lit H.prg hbl
 have hpl:(s.t k).pc.toNat<(m.p.bodies[(s.t k).body.toNat]).length:=by rw [hacts] at hp1;omega
 have hact:m.p.act (s.t k)=(m.p.bodies[(s.t k).body.toNat])[(s.t k).pc.toNat]:=by unfold Prog.act;rw [hacts];exact getD_at _ _ _ hpl
 obtain⟨be,oe,F,cf,K,ck,rfl,hbe,a0,a1,a2,a3,hF,hK⟩:=act_lit hE hpl
 have hel:=hE.1
 rw [eQ] at g1
 rw [hact]
 have y1:(s.t k).pc<(m.p.bodies[(s.t k).body.toNat]).length:=by rw [hacts] at hp1;exact hp1
 have t1:decide ((s.t k).pc ≥ ((m.p.bodies[(s.t k).body.toNat]).length:Int))=false:=by simp;omega
 generalize (m.p.bodies[(s.t k).body.toNat])[(s.t k).pc.toNat]=a at *
 generalize (m.p.bodies[(s.t k).body.toNat]).length=n at *
 have c0:=hat.c0;have c1:=hat.c1;have c2:=hat.c2;have c3:=hat.c3;have c4:=hat.c4;have c5:=hat.c5;have c6:=hat.c6;have c7:=hat.c7;have c8:=hat.c8;have c9:=hat.c9;have c10:=hat.c10;have c11:=hat.c11;have c12:=hat.c12
 have x1:(k:Int)<s.tasks.length:=by omega
 have x3:(0:Int)≤k:=by omega
 have hb2:=fun o1 o2=>alB2 w o1 o2
 have HF:=Lib.hid (And.intro hF hK)
 clear H hx hat hacts hact hp1 hE hF hK eQ
 go_enter Tryz.func154,Tryz.ntmps154
 go_wp2
 go_quiet (fail)
 go_wp2
 refine bodyPost_ret (v:=.tuple #[actV a F K cf ck,.bool true]) (by simp [results,Tryz.results154,go_sem,actV]) rfl ⟨⟨F,cf,K,ck,rfl,?_,?_⟩,?_⟩
 ·exact HF.out.1.belowAll (by repeat' (first | exact Below.refl _ _ | apply below_drewN' | (refine Below.setCell ?_ (by simp) _) | (refine Below.alloc ?_ (by simp) _)))
 ·exact HF.out.2.belowAll (by repeat' (first | exact Below.refl _ _ | apply below_drewN' | (refine Below.setCell ?_ (by simp) _) | (refine Below.alloc ?_ (by simp) _)))
 ·exact(by repeat' (first | exact Below.refl _ _ | apply below_drewN' | (refine Below.setCell ?_ (by simp) _) | (refine Below.alloc ?_ (by simp) _)))
theorem act_no (m:Mc)(s:Sys)(vt:Value)(w:World)(k:Nat)(h:Mach m s vt w)(hk:k<s.tasks.length)(hb0:0≤(s.t k).body)(hb1:(s.t k).body<m.p.bodies.length)(hp0:0≤(s.t k).pc)(hp1:((m.p.acts (s.t k).body).length:Int)≤(s.t k).pc) :
  Calls Tryz.prog 154 #[.pointer (some ⟨m.g,0,none⟩),.int .i64 k] w fun e w'=>e=.returned (.tuple #[noActV,.bool false])∧Below w.heap.size w w':=by
 obtain⟨R,vc,vl,ts,es,H⟩:=h
 obtain⟨gt,cap,Ar,cr,Ao,co,Ad,cd,Au,cu,rfl,hx,_,_,_,_⟩:=H.at_ hk
 obtain⟨hne,hlt,hgl,_,g3,_,_,hat,hfz,_⟩:=H.see hx
 have g1:=H.cells.2.1
 have hmax:=H.max
 have hbl:(s.t k).body.toNat<m.p.bodies.length:=by omega
 have hbm:=H.prg.1
 have hacts:m.p.acts (s.t k).body=m.p.bodies[(s.t k).body.toNat]:=by unfold Prog.acts;exact getD_at _ _ _ hbl
 obtain⟨bq,oq,E,ce,eQ,hbq,hq,hqc,hE⟩:=slice_lit H.prg hbl
 have hel:=hE.1
 rw [eQ] at g1
 have t1:decide ((s.t k).pc ≥ ((m.p.bodies[(s.t k).body.toNat]).length:Int))=true:=by rw [hacts] at hp1;simp;omega
 generalize (m.p.bodies[(s.t k).body.toNat]).length=n at *
 have c0:=hat.c0;have c1:=hat.c1;have c2:=hat.c2;have c3:=hat.c3;have c4:=hat.c4;have c5:=hat.c5;have c6:=hat.c6;have c7:=hat.c7;have c8:=hat.c8;have c9:=hat.c9;have c10:=hat.c10;have c11:=hat.c11;have c12:=hat.c12
 have x1:(k:Int)<s.tasks.length:=by omega
 have x3:(0:Int)≤k:=by omega
 have hb2:=fun o1 o2=>alB2 w o1 o2
 clear H hx hat hacts hp1 hE eQ
 go_enter Tryz.func154,Tryz.ntmps154
 go_wp2
 go_quiet (fail)
 go_wp2
 refine bodyPost_ret (v:=.tuple #[noActV,.bool false]) (by simp [results,Tryz.results154,go_sem,noActV]) rfl ⟨rfl,?_⟩
 exact(by repeat' (first | exact Below.refl _ _ | apply below_drewN' | (refine Below.setCell ?_ (by simp) _) | (refine Below.alloc ?_ (by simp) _)))
end Go.Proofs.YtjacjafmimgfcaaGreat
