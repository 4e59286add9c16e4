/- The program's look at deeds: parts behind an interface.; The program's look at a system: lists of cells and numbers; cells; registers. -/
import Derived.Deep.RegionHeld3
import Derived.Test.YtjacjafmimgfcaaGreatWab
import Derived.Test.YtjacjafmimgfcaaGreatWam
set_option maxHeartbeats 2000000
set_option maxRecDepth 100000
set_option linter.unusedVariables false
set_option linter.unusedSimpArgs false
namespace Go.Proofs.YtjacjafmimgfcaaGreat
open Go.RowKit
theorem ta_loadDeed_loadDeed (v:Value)(w:World):(Instr.typeAssert (.iface 207 v) 171 207 true).run Tryz.prog w=.ok (.tuple #[v,.bool true]) w:=by kernel_rfl
theorem ta_storeDeed_loadDeed (v:Value)(w:World):(Instr.typeAssert (.iface 209 v) 171 207 true).run Tryz.prog w=.ok (.tuple #[.agg #[.int .i64 0,.int .i64 0],.bool false]) w:=by kernel_rfl
theorem ta_numDeed_loadDeed (v:Value)(w:World):(Instr.typeAssert (.iface 211 v) 171 207 true).run Tryz.prog w=.ok (.tuple #[.agg #[.int .i64 0,.int .i64 0],.bool false]) w:=by kernel_rfl
theorem ta_addDeed_loadDeed (v:Value)(w:World):(Instr.typeAssert (.iface 213 v) 171 207 true).run Tryz.prog w=.ok (.tuple #[.agg #[.int .i64 0,.int .i64 0],.bool false]) w:=by kernel_rfl
theorem ta_needDeed_loadDeed (v:Value)(w:World):(Instr.typeAssert (.iface 214 v) 171 207 true).run Tryz.prog w=.ok (.tuple #[.agg #[.int .i64 0,.int .i64 0],.bool false]) w:=by kernel_rfl
theorem ta_nil_loadDeed (w:World):(Instr.typeAssert .nilIface 171 207 true).run Tryz.prog w=.ok (.tuple #[.agg #[.int .i64 0,.int .i64 0],.bool false]) w:=by kernel_rfl
theorem ta_loadDeed_storeDeed (v:Value)(w:World):(Instr.typeAssert (.iface 207 v) 171 209 true).run Tryz.prog w=.ok (.tuple #[.agg #[.int .i64 0,.int .i64 0],.bool false]) w:=by kernel_rfl
theorem ta_storeDeed_storeDeed (v:Value)(w:World):(Instr.typeAssert (.iface 209 v) 171 209 true).run Tryz.prog w=.ok (.tuple #[v,.bool true]) w:=by kernel_rfl
theorem ta_numDeed_storeDeed (v:Value)(w:World):(Instr.typeAssert (.iface 211 v) 171 209 true).run Tryz.prog w=.ok (.tuple #[.agg #[.int .i64 0,.int .i64 0],.bool false]) w:=by kernel_rfl
theorem ta_addDeed_storeDeed (v:Value)(w:World):(Instr.typeAssert (.iface 213 v) 171 209 true).run Tryz.prog w=.ok (.tuple #[.agg #[.int .i64 0,.int .i64 0],.bool false]) w:=by kernel_rfl
theorem ta_needDeed_storeDeed (v:Value)(w:World):(Instr.typeAssert (.iface 214 v) 171 209 true).run Tryz.prog w=.ok (.tuple #[.agg #[.int .i64 0,.int .i64 0],.bool false]) w:=by kernel_rfl
theorem ta_nil_storeDeed (w:World):(Instr.typeAssert .nilIface 171 209 true).run Tryz.prog w=.ok (.tuple #[.agg #[.int .i64 0,.int .i64 0],.bool false]) w:=by kernel_rfl
theorem ta_loadDeed_numDeed (v:Value)(w:World):(Instr.typeAssert (.iface 207 v) 171 211 true).run Tryz.prog w=.ok (.tuple #[.agg #[.int .i64 0,.int .i64 0],.bool false]) w:=by kernel_rfl
theorem ta_storeDeed_numDeed (v:Value)(w:World):(Instr.typeAssert (.iface 209 v) 171 211 true).run Tryz.prog w=.ok (.tuple #[.agg #[.int .i64 0,.int .i64 0],.bool false]) w:=by kernel_rfl
theorem ta_numDeed_numDeed (v:Value)(w:World):(Instr.typeAssert (.iface 211 v) 171 211 true).run Tryz.prog w=.ok (.tuple #[v,.bool true]) w:=by kernel_rfl
theorem ta_addDeed_numDeed (v:Value)(w:World):(Instr.typeAssert (.iface 213 v) 171 211 true).run Tryz.prog w=.ok (.tuple #[.agg #[.int .i64 0,.int .i64 0],.bool false]) w:=by kernel_rfl
theorem ta_needDeed_numDeed (v:Value)(w:World):(Instr.typeAssert (.iface 214 v) 171 211 true).run Tryz.prog w=.ok (.tuple #[.agg #[.int .i64 0,.int .i64 0],.bool false]) w:=by kernel_rfl
theorem ta_nil_numDeed (w:World):(Instr.typeAssert .nilIface 171 211 true).run Tryz.prog w=.ok (.tuple #[.agg #[.int .i64 0,.int .i64 0],.bool false]) w:=by kernel_rfl
theorem ta_loadDeed_addDeed (v:Value)(w:World):(Instr.typeAssert (.iface 207 v) 171 213 true).run Tryz.prog w=.ok (.tuple #[.agg #[.int .i64 0,.int .i64 0],.bool false]) w:=by kernel_rfl
theorem ta_storeDeed_addDeed (v:Value)(w:World):(Instr.typeAssert (.iface 209 v) 171 213 true).run Tryz.prog w=.ok (.tuple #[.agg #[.int .i64 0,.int .i64 0],.bool false]) w:=by kernel_rfl
theorem ta_numDeed_addDeed (v:Value)(w:World):(Instr.typeAssert (.iface 211 v) 171 213 true).run Tryz.prog w=.ok (.tuple #[.agg #[.int .i64 0,.int .i64 0],.bool false]) w:=by kernel_rfl
theorem ta_addDeed_addDeed (v:Value)(w:World):(Instr.typeAssert (.iface 213 v) 171 213 true).run Tryz.prog w=.ok (.tuple #[v,.bool true]) w:=by kernel_rfl
theorem ta_needDeed_addDeed (v:Value)(w:World):(Instr.typeAssert (.iface 214 v) 171 213 true).run Tryz.prog w=.ok (.tuple #[.agg #[.int .i64 0,.int .i64 0],.bool false]) w:=by kernel_rfl
theorem ta_nil_addDeed (w:World):(Instr.typeAssert .nilIface 171 213 true).run Tryz.prog w=.ok (.tuple #[.agg #[.int .i64 0,.int .i64 0],.bool false]) w:=by kernel_rfl
theorem ta_loadDeed_needDeed (v:Value)(w:World):(Instr.typeAssert (.iface 207 v) 171 214 true).run Tryz.prog w=.ok (.tuple #[.agg #[.int .i64 0],.bool false]) w:=by kernel_rfl
theorem ta_storeDeed_needDeed (v:Value)(w:World):(Instr.typeAssert (.iface 209 v) 171 214 true).run Tryz.prog w=.ok (.tuple #[.agg #[.int .i64 0],.bool false]) w:=by kernel_rfl
theorem ta_numDeed_needDeed (v:Value)(w:World):(Instr.typeAssert (.iface 211 v) 171 214 true).run Tryz.prog w=.ok (.tuple #[.agg #[.int .i64 0],.bool false]) w:=by kernel_rfl
theorem ta_addDeed_needDeed (v:Value)(w:World):(Instr.typeAssert (.iface 213 v) 171 214 true).run Tryz.prog w=.ok (.tuple #[.agg #[.int .i64 0],.bool false]) w:=by kernel_rfl
theorem ta_needDeed_needDeed (v:Value)(w:World):(Instr.typeAssert (.iface 214 v) 171 214 true).run Tryz.prog w=.ok (.tuple #[v,.bool true]) w:=by kernel_rfl
theorem ta_nil_needDeed (w:World):(Instr.typeAssert .nilIface 171 214 true).run Tryz.prog w=.ok (.tuple #[.agg #[.int .i64 0],.bool false]) w:=by kernel_rfl
theorem ta_tryAct_tryAct (v:Value)(w:World):(Instr.typeAssert (.iface 199 v) 171 199 true).run Tryz.prog w=.ok (.tuple #[v,.bool true]) w:=by kernel_rfl
theorem ta_forkAct_tryAct (v:Value)(w:World):(Instr.typeAssert (.iface 201 v) 171 199 true).run Tryz.prog w=.ok (.tuple #[.agg #[.slice none 0 0],.bool false]) w:=by kernel_rfl
theorem ta_failAct_tryAct (v:Value)(w:World):(Instr.typeAssert (.iface 203 v) 171 199 true).run Tryz.prog w=.ok (.tuple #[.agg #[.slice none 0 0],.bool false]) w:=by kernel_rfl
theorem ta_failIfAct_tryAct (v:Value)(w:World):(Instr.typeAssert (.iface 205 v) 171 199 true).run Tryz.prog w=.ok (.tuple #[.agg #[.slice none 0 0],.bool false]) w:=by kernel_rfl
theorem ta_nil_tryAct (w:World):(Instr.typeAssert .nilIface 171 199 true).run Tryz.prog w=.ok (.tuple #[.agg #[.slice none 0 0],.bool false]) w:=by kernel_rfl
theorem ta_tryAct_forkAct (v:Value)(w:World):(Instr.typeAssert (.iface 199 v) 171 201 true).run Tryz.prog w=.ok (.tuple #[.agg #[.slice none 0 0],.bool false]) w:=by kernel_rfl
theorem ta_forkAct_forkAct (v:Value)(w:World):(Instr.typeAssert (.iface 201 v) 171 201 true).run Tryz.prog w=.ok (.tuple #[v,.bool true]) w:=by kernel_rfl
theorem ta_failAct_forkAct (v:Value)(w:World):(Instr.typeAssert (.iface 203 v) 171 201 true).run Tryz.prog w=.ok (.tuple #[.agg #[.slice none 0 0],.bool false]) w:=by kernel_rfl
theorem ta_failIfAct_forkAct (v:Value)(w:World):(Instr.typeAssert (.iface 205 v) 171 201 true).run Tryz.prog w=.ok (.tuple #[.agg #[.slice none 0 0],.bool false]) w:=by kernel_rfl
theorem ta_nil_forkAct (w:World):(Instr.typeAssert .nilIface 171 201 true).run Tryz.prog w=.ok (.tuple #[.agg #[.slice none 0 0],.bool false]) w:=by kernel_rfl
theorem ta_tryAct_failAct (v:Value)(w:World):(Instr.typeAssert (.iface 199 v) 171 203 true).run Tryz.prog w=.ok (.tuple #[.agg #[],.bool false]) w:=by kernel_rfl
theorem ta_forkAct_failAct (v:Value)(w:World):(Instr.typeAssert (.iface 201 v) 171 203 true).run Tryz.prog w=.ok (.tuple #[.agg #[],.bool false]) w:=by kernel_rfl
theorem ta_failAct_failAct (v:Value)(w:World):(Instr.typeAssert (.iface 203 v) 171 203 true).run Tryz.prog w=.ok (.tuple #[v,.bool true]) w:=by kernel_rfl
theorem ta_failIfAct_failAct (v:Value)(w:World):(Instr.typeAssert (.iface 205 v) 171 203 true).run Tryz.prog w=.ok (.tuple #[.agg #[],.bool false]) w:=by kernel_rfl
theorem ta_nil_failAct (w:World):(Instr.typeAssert .nilIface 171 203 true).run Tryz.prog w=.ok (.tuple #[.agg #[],.bool false]) w:=by kernel_rfl
theorem ta_tryAct_failIfAct (v:Value)(w:World):(Instr.typeAssert (.iface 199 v) 171 205 true).run Tryz.prog w=.ok (.tuple #[.agg #[.int .i64 0],.bool false]) w:=by kernel_rfl
theorem ta_forkAct_failIfAct (v:Value)(w:World):(Instr.typeAssert (.iface 201 v) 171 205 true).run Tryz.prog w=.ok (.tuple #[.agg #[.int .i64 0],.bool false]) w:=by kernel_rfl
theorem ta_failAct_failIfAct (v:Value)(w:World):(Instr.typeAssert (.iface 203 v) 171 205 true).run Tryz.prog w=.ok (.tuple #[.agg #[.int .i64 0],.bool false]) w:=by kernel_rfl
theorem ta_failIfAct_failIfAct (v:Value)(w:World):(Instr.typeAssert (.iface 205 v) 171 205 true).run Tryz.prog w=.ok (.tuple #[v,.bool true]) w:=by kernel_rfl
theorem ta_nil_failIfAct (w:World):(Instr.typeAssert .nilIface 171 205 true).run Tryz.prog w=.ok (.tuple #[.agg #[.int .i64 0],.bool false]) w:=by kernel_rfl
attribute [local go_sem] ta_loadDeed_loadDeed ta_storeDeed_loadDeed ta_numDeed_loadDeed ta_addDeed_loadDeed ta_needDeed_loadDeed ta_nil_loadDeed ta_loadDeed_storeDeed ta_storeDeed_storeDeed ta_numDeed_storeDeed ta_addDeed_storeDeed ta_needDeed_storeDeed ta_nil_storeDeed ta_loadDeed_numDeed ta_storeDeed_numDeed ta_numDeed_numDeed ta_addDeed_numDeed ta_needDeed_numDeed ta_nil_numDeed ta_loadDeed_addDeed ta_storeDeed_addDeed ta_numDeed_addDeed ta_addDeed_addDeed ta_needDeed_addDeed ta_nil_addDeed ta_loadDeed_needDeed ta_storeDeed_needDeed ta_numDeed_needDeed ta_addDeed_needDeed ta_needDeed_needDeed ta_nil_needDeed ta_tryAct_tryAct ta_forkAct_tryAct ta_failAct_tryAct ta_failIfAct_tryAct ta_nil_tryAct ta_tryAct_forkAct ta_forkAct_forkAct ta_failAct_forkAct ta_failIfAct_forkAct ta_nil_forkAct ta_tryAct_failAct ta_forkAct_failAct ta_failAct_failAct ta_failIfAct_failAct ta_nil_failAct ta_tryAct_failIfAct ta_forkAct_failIfAct ta_failAct_failIfAct ta_failIfAct_failIfAct ta_nil_failIfAct
def partV (k a b:Int):Value :=
 if k=1 then .iface 207 (.agg #[.int .i64 a,.int .i64 b])
 else if k=2 then .iface 209 (.agg #[.int .i64 a,.int .i64 b])
 else if k=3 then .iface 211 (.agg #[.int .i64 a,.int .i64 b])
 else if k=4 then .iface 213 (.agg #[.int .i64 a,.int .i64 b])
 else if k=5 then (if b=0 then .iface 214 (.agg #[.int .i64 a]) else .nilIface)
 else .nilIface
theorem partOfDeed_calls (k a b:Int)(w:World) :
  Calls Tryz.prog 129 #[.agg #[.int .i64 k,.int .i64 a,.int .i64 b]] w fun e w'=>e=.returned (partV k a b)∧Below w.heap.size w w':=by
  go_enter Tryz.func129,Tryz.ntmps129
  go_wp2
  all_goals
   go_ret
   exact⟨by simp_all [partV],(Below.refl _ _).alloc (Nat.le_refl _) _⟩
theorem isPlace_calls (i n:Int)(w:World)(h0:-9223372036854775808<n) :
  Calls Tryz.prog 89 #[.int .i64 i,.int .i64 n] w fun e w'=>e=.returned (.bool (inR i 0 (n-1)))∧w=w':=by
 by_cases h:0≤i
 all_goals
  go_enter Tryz.func89,Tryz.ntmps89
  go_wp2
  go_ret
  exact⟨by simp [inR,h]<;>omega,rfl⟩
theorem isReg_calls (i:Int)(w:World) :
  Calls Tryz.prog 151 #[.int .i64 i] w fun e w'=>e=.returned (.bool (inR i 0 2))∧w=w':=by
  go_enter Tryz.func151,Tryz.ntmps151
  go_wp2_with (go_at_call 89;refine(isPlace_calls _ _ _ (by omega)).mono ?_;rintro e w' ⟨rfl,rfl⟩)
  go_ret
  exact⟨rfl,rfl⟩
theorem isNum_calls (i:Int)(w:World) :
  Calls Tryz.prog 121 #[.int .i64 i] w fun e w'=>e=.returned (.bool (inR i 0 99))∧w=w':=by
  go_enter Tryz.func121,Tryz.ntmps121
  go_wp2_with (go_at_call 89;refine(isPlace_calls _ _ _ (by omega)).mono ?_;rintro e w' ⟨rfl,rfl⟩)
  go_ret
  exact⟨rfl,rfl⟩
theorem deedOk_calls (k a b c:Int)(w:World)(h0:0≤c) :
  Calls Tryz.prog 128 #[partV k a b,.int .i64 c] w fun e w'=>e=.returned (.bool (deedOk ⟨k,a,b⟩ c))∧Below w.heap.size w w':=by
 by_cases h1:k=1
 ·subst h1
  have hv:partV 1 a b=.iface 207 (.agg #[.int .i64 a,.int .i64 b]):=rfl
  rw [hv]
  clear hv
  go_enter Tryz.func128,Tryz.ntmps128
  go_wp2_with (first | (go_at_call 151;refine(isReg_calls _ _).mono ?_;rintro e w' ⟨rfl,rfl⟩) | (go_at_call 121;refine(isNum_calls _ _).mono ?_;rintro e w' ⟨rfl,rfl⟩) | (go_at_call 89;refine(isPlace_calls _ _ _ (by omega)).mono ?_;rintro e w' ⟨rfl,rfl⟩))
  all_goals
   go_ret
   exact⟨by simp_all [deedOk],(by repeat (first | exact Below.refl _ _ | (refine Below.alloc ?_ (by simp) _) | (refine Below.setCell ?_ (by simp) _) | (refine below_drewN' ?_ _) | (refine Below.drew ?_)))⟩
 by_cases h2:k=2
 ·subst h2
  have hv:partV 2 a b=.iface 209 (.agg #[.int .i64 a,.int .i64 b]):=rfl
  rw [hv]
  clear hv
  go_enter Tryz.func128,Tryz.ntmps128
  go_wp2_with (first | (go_at_call 151;refine(isReg_calls _ _).mono ?_;rintro e w' ⟨rfl,rfl⟩) | (go_at_call 121;refine(isNum_calls _ _).mono ?_;rintro e w' ⟨rfl,rfl⟩) | (go_at_call 89;refine(isPlace_calls _ _ _ (by omega)).mono ?_;rintro e w' ⟨rfl,rfl⟩))
  all_goals
   go_ret
   exact⟨by simp_all [deedOk],(by repeat (first | exact Below.refl _ _ | (refine Below.alloc ?_ (by simp) _) | (refine Below.setCell ?_ (by simp) _) | (refine below_drewN' ?_ _) | (refine Below.drew ?_)))⟩
 by_cases h3:k=3
 ·subst h3
  have hv:partV 3 a b=.iface 211 (.agg #[.int .i64 a,.int .i64 b]):=rfl
  rw [hv]
  clear hv
  go_enter Tryz.func128,Tryz.ntmps128
  go_wp2_with (first | (go_at_call 151;refine(isReg_calls _ _).mono ?_;rintro e w' ⟨rfl,rfl⟩) | (go_at_call 121;refine(isNum_calls _ _).mono ?_;rintro e w' ⟨rfl,rfl⟩) | (go_at_call 89;refine(isPlace_calls _ _ _ (by omega)).mono ?_;rintro e w' ⟨rfl,rfl⟩))
  all_goals
   go_ret
   exact⟨by simp_all [deedOk],(by repeat (first | exact Below.refl _ _ | (refine Below.alloc ?_ (by simp) _) | (refine Below.setCell ?_ (by simp) _) | (refine below_drewN' ?_ _) | (refine Below.drew ?_)))⟩
 by_cases h4:k=4
 ·subst h4
  have hv:partV 4 a b=.iface 213 (.agg #[.int .i64 a,.int .i64 b]):=rfl
  rw [hv]
  clear hv
  go_enter Tryz.func128,Tryz.ntmps128
  go_wp2_with (first | (go_at_call 151;refine(isReg_calls _ _).mono ?_;rintro e w' ⟨rfl,rfl⟩) | (go_at_call 121;refine(isNum_calls _ _).mono ?_;rintro e w' ⟨rfl,rfl⟩) | (go_at_call 89;refine(isPlace_calls _ _ _ (by omega)).mono ?_;rintro e w' ⟨rfl,rfl⟩))
  all_goals
   go_ret
   exact⟨by simp_all [deedOk],(by repeat (first | exact Below.refl _ _ | (refine Below.alloc ?_ (by simp) _) | (refine Below.setCell ?_ (by simp) _) | (refine below_drewN' ?_ _) | (refine Below.drew ?_)))⟩
 by_cases h5:k=5
 ·subst h5
  by_cases hb:b=0
  ·subst hb
   have hv:partV 5 a 0=.iface 214 (.agg #[.int .i64 a]):=rfl
   rw [hv]
   clear hv
   go_enter Tryz.func128,Tryz.ntmps128
   go_wp2_with (go_at_call 151;refine(isReg_calls _ _).mono ?_;rintro e w' ⟨rfl,rfl⟩)
   all_goals
    go_ret
    exact⟨by simp_all [deedOk],(by repeat (first | exact Below.refl _ _ | (refine Below.alloc ?_ (by simp) _) | (refine Below.setCell ?_ (by simp) _) | (refine below_drewN' ?_ _) | (refine Below.drew ?_)))⟩
  ·have hv:partV 5 a b=.nilIface:=by simp [partV,hb]
   rw [hv]
   have HB:=Lib.hid hb
   clear hv hb
   go_enter Tryz.func128,Tryz.ntmps128
   go_wp2
   go_ret
   exact⟨by simp [deedOk,HB.out],(by repeat (first | exact Below.refl _ _ | (refine Below.alloc ?_ (by simp) _) | (refine Below.setCell ?_ (by simp) _) | (refine below_drewN' ?_ _) | (refine Below.drew ?_)))⟩
 ·have hv:partV k a b=.nilIface:=by simp [partV,h1,h2,h3,h4,h5]
  rw [hv]
  clear hv
  go_enter Tryz.func128,Tryz.ntmps128
  go_wp2
  go_ret
  exact⟨by simp [deedOk,h1,h2,h3,h4,h5],(by repeat (first | exact Below.refl _ _ | (refine Below.alloc ?_ (by simp) _) | (refine Below.setCell ?_ (by simp) _) | (refine below_drewN' ?_ _) | (refine Below.drew ?_)))⟩
theorem allNums_calls (l:List Int)(A:Option Addr)(cap:Nat)(w:World)(S:Nat→Prop)(hr:Row Kd.int w S A l) :
  Calls Tryz.prog 91 #[.slice A l.length cap] w fun e w'=>e=.returned (.bool (numsOk l))∧w=w':=by
 have hm:=hr.1
 go_enter Tryz.func91,Tryz.ntmps91
 go_wp2
 go_loop [4,7] (fun _ i=>∃ k:Nat,k≤l.length∧i=.int .i64 k∧Hid ((l.take k).all (fun k=>inR k 0 99)=true)) (fun _ i=>l.length-(intOf i).toNat)
 case atStart=>exact⟨0,Nat.zero_le _,rfl,by simp [Hid]⟩
 case round =>
  obtain⟨k,hk,rfl,HA⟩:=hrel
  by_cases hlt:k<l.length
  ·obtain⟨ad,rfl,hl,hc,hi⟩:=at_int hr hlt
   cases hin:inR l[k] 0 99
   all_goals
    have HI:=Lib.hid hin
    clear hin
    go_wp2_with (go_at_call 121;refine(isNum_calls _ _).mono ?_;rintro e w' ⟨rfl,rfl⟩;simp only [HI.out])
   ·go_ret
    refine⟨ret_bool ?_,rfl⟩
    rw [numsOk,all_false_of _ _ k hlt HI.out]
   ·go_round
    case rel=>exact⟨k+1,by omega,by go_num,by unfold Hid;rw [all_take_snoc _ _ _ hlt,HA.out,HI.out];rfl⟩
    case measure=>simp [intOf];omega
  ·go_wp2
   go_ret
   refine⟨?_,rfl⟩
   have:=HA.out
   rw [all_take_all _ _ _ (by omega)] at this
   simp [numsOk,this]
theorem changeOk_calls (deeds:List Deed)(c:Int)(A:Option Addr)(cap:Nat)(w:World)(S:Nat→Prop)(hr:Row kDeed w S A deeds)(h1:c≤9223372036854775807) :
  Calls Tryz.prog 90 #[.slice A deeds.length cap,.int .i64 c] w fun e w'=>e=.returned (.bool (changeOk deeds c))∧Below w.heap.size w w':=by
 have hm:=hr.1
 by_cases hc:0≤c∧c≤3∧deeds.length≤5
 rotate_left
 ·have hf:changeOk deeds c=false:=by
   simp only [changeOk,inR]
   rcases Classical.em (deeds.length≤5) with h5 | h5
   ·have:¬ (0≤c∧c≤3):=by omega
    simp;omega
   ·simp [h5]
  rw [hf]
  by_cases h0:c<0
  ·go_enter Tryz.func90,Tryz.ntmps90
   go_wp2
   go_ret
   exact⟨rfl,Below.refl _ _⟩
  ·by_cases h3:3<c
   ·go_enter Tryz.func90,Tryz.ntmps90
    go_wp2
    go_ret
    exact⟨rfl,Below.refl _ _⟩
   ·have h5:5<deeds.length:=by omega
    go_enter Tryz.func90,Tryz.ntmps90
    go_wp2
    go_ret
    exact⟨rfl,Below.refl _ _⟩
 obtain⟨hc0,hc3,hc5⟩:=hc
 go_enter Tryz.func90,Tryz.ntmps90
 go_wp2
 go_loopw [6,20] (fun _ i wr=>∃ k:Nat,k≤deeds.length∧i=.int .i64 k∧Hid ((deeds.take k).all (deedOk · c)=true)∧Below w.heap.size w wr) (fun _ i _=>deeds.length-(intOf i).toNat)
 case atStart=>exact⟨0,Nat.zero_le _,rfl,by simp [Hid],Below.refl _ _⟩
 case round =>
  obtain⟨k,hk,rfl,HA,hbr⟩:=hrel
  by_cases hlt:k<deeds.length
  ·obtain⟨ad,rfl,hl,hc1,hc2,hc4,hi1,hi2,hi3⟩:=at_deed (hr.belowAll hbr) hlt
   cases hin:deedOk deeds[k] c
   all_goals
    have HI:=Lib.hid hin
    clear hin
    go_wp2_with (first | (go_at_call 129;refine(partOfDeed_calls _ _ _ _).mono ?_;rintro e w1 ⟨rfl,hb1⟩) | (go_at_call 128;refine(deedOk_calls _ _ _ _ _ (by omega)).mono ?_;rintro e w2 ⟨rfl,hb2⟩;rw [HI.out]))
   all_goals have hbx:Below w.heap.size w w2:=below_then (below_then (hbr.alloc hbr.size _) (by have:=hbr.size;simp;omega) hb1) (by have:=hbr.size;have:=hb1.size;simp at this;omega) hb2
   ·go_ret
    refine⟨?_,hbx⟩
    simp [changeOk,all_false_of (deedOk · c) _ k hlt HI.out]
   ·go_roundw
    case rel=>exact⟨k+1,by omega,by go_num,by unfold Hid;rw [all_take_snoc _ _ _ hlt,HA.out,HI.out];rfl,hbx⟩
    case measure=>simp [intOf];omega
  ·go_wp2
   go_ret
   refine⟨?_,hbr⟩
   have:=HA.out
   rw [all_take_all _ _ _ (by omega)] at this
   simp [changeOk,this,inR,hc0,hc3,hc5]
end Go.Proofs.YtjacjafmimgfcaaGreat
namespace Go.Proofs.YtjacjafmimgfcaaGreat
open Go.RowKit
theorem isPlace_drew (a n:Int)(h0:-9223372036854775808<n)(r:Bool)(hr:inR a 0 (n-1)=r)(w:World)(m:Nat):Calls Tryz.prog 89 #[.int .i64 a,.int .i64 n] (w.drewN m) fun e w'=>e=.returned (.bool r)∧w'=w.drewN m :=
 (isPlace_calls a n (w.drewN m) h0).mono fun e w' h=>⟨by rw [h.1,hr],h.2.symm⟩
theorem isNum_drew (a:Int)(r:Bool)(hr:inR a 0 99=r)(w:World)(m:Nat):Calls Tryz.prog 121 #[.int .i64 a] (w.drewN m) fun e w'=>e=.returned (.bool r)∧w'=w.drewN m :=
 (isNum_calls a (w.drewN m)).mono fun e w' h=>⟨by rw [h.1,hr],h.2.symm⟩
theorem putsOk_calls (l:List Put)(A:Option Addr)(cap:Nat)(n:Int)(w:World)(S:Nat→Prop)(hr:Row kPut w S A l)(h0:0≤n)(h1:n≤9223372036854775807) :
  Calls Tryz.prog 123 #[.slice A l.length cap,.int .i64 n] w fun e w'=>e=.returned (.bool (putsOk l n))∧Below w.heap.size w w':=by
 have hm:=hr.1
 go_enter Tryz.func123,Tryz.ntmps123
 go_wp2
 go_loopw [5,6,9] (fun _ _ i wr=>∃ k:Nat,k≤l.length∧i=.int .i64 k∧Hid ((List.range k).all (putAtOk l n)=true)∧Below w.heap.size w wr) (fun _ _ i _=>l.length-(intOf i).toNat)
 case atStart=>exact⟨0,Nat.zero_le _,rfl,by simp [Hid],Below.refl _ _⟩
 case round =>
  obtain⟨k,hk,rfl,HA,hbr⟩:=hrel
  by_cases hlt:k<l.length
  ·obtain⟨ad,rfl,hl,c0,c1⟩:=at_put (hr.belowAll hbr) hlt
   have hat:putAtOk l n k=(inR l[k].cell 0 (n-1) && inR l[k].num 0 99 && (decide (k=0) || decide ((l.getD (k-1) noPut).cell<l[k].cell))):=by unfold putAtOk;rw [getD_at _ _ _ hlt]
   have HAT:=Lib.hid hat
   clear hat
   have x1:(k:Int)<l.length:=by omega
   have x3:(0:Int)≤k:=by omega
   have hbad:putAtOk l n k=false→putsOk l n=false:=fun h=>range_all_false _ _ k hlt h
   have hbr1:=fun o=>below_then hbr hbr.size (alB wr o)
   cases e1:inR l[k].cell 0 (n-1) with
   | false =>
    have hc1:=fun o=>isPlace_drew _ _ (by omega) _ e1 (wr.alloc o)
    have HB:=Lib.hid (hbad (by rw [HAT.out,e1];rfl))
    clear e1 hbad
    go_wp2
    go_quiet (first | (go_at_call 89;with_reducible refine Calls.quiet_of_same (hc1 _ _)))
    go_wp2
    go_ret
    exact⟨ret_bool HB.out.symm,by repeat' (first | exact hbr1 _ | apply below_drewN1)⟩
   | true =>
    have hc1:=fun o=>isPlace_drew _ _ (by omega) _ e1 (wr.alloc o)
    cases e2:inR l[k].num 0 99 with
    | false =>
     have hc2:=fun o=>isNum_drew _ _ e2 (wr.alloc o)
     have HB:=Lib.hid (hbad (by rw [HAT.out,e1,e2];rfl))
     clear e1 e2 hbad
     go_wp2
     go_quiet (first | (go_at_call 89;with_reducible refine Calls.quiet_of_same (hc1 _ _)) | (go_at_call 121;with_reducible refine Calls.quiet_of_same (hc2 _ _)))
     go_wp2
     go_ret
     exact⟨ret_bool HB.out.symm,by repeat' (first | exact hbr1 _ | apply below_drewN1)⟩
    | true =>
     have hc2:=fun o=>isNum_drew _ _ e2 (wr.alloc o)
     rcases Nat.eq_zero_or_pos k with hk0 | hk0
     ·subst hk0
      have HG:=Lib.hid (show putAtOk l n 0=true by rw [HAT.out,e1,e2];rfl)
      have d0:wr.cell? ad=some (.int .i64 l[0].cell):=by simpa [Addr.add] using c0
      have d1:wr.cell? ⟨ad.block,ad.off+1,none⟩=some (.int .i64 l[0].num):=by simpa [Addr.add] using c1
      have y1:(0:Int)<l.length:=by omega
      clear e1 e2 hbad c0 c1
      go_wp2
      go_quiet (first | (go_at_call 89;with_reducible refine Calls.quiet_of_same (hc1 _ _)) | (go_at_call 121;with_reducible refine Calls.quiet_of_same (hc2 _ _)))
      go_wp2
      go_roundw
      case rel=>exact⟨1,by omega,by go_num,by unfold Hid;rw [range_all_succ,HG.out];rfl,by repeat' (first | exact hbr1 _ | apply below_drewN1)⟩
      case measure=>simp [intOf];omega
     ·obtain⟨m,rfl⟩:∃ m,k=m+1:=⟨k-1,by omega⟩
      have hlm:m<l.length:=by omega
      obtain⟨ad',he,hl',d0,d1⟩:=at_put (hr.belowAll hbr) hlm
      injection he with he
      subst he
      have hlb:(ad.add (m*2)).block<wr.heap.size:=by rw [block_add];exact hl
      have d0':=fun o=>((alB wr o).cell (p:=ad.add (m*2)) hlb).trans d0
      have e5:l.getD (m+1-1) noPut=l[m]:=by rw [show m+1-1=m from rfl,getD_at _ _ _ hlm]
      have y1:((m+1:Nat):Int) > 0:=by omega
      have y2:(m:Int)<l.length:=by omega
      have y3:IntKind.i64.wrap (((m+1:Nat):Int)-1)=(m:Int):=by rw [show ((m+1:Nat):Int)-1=(m:Int) by omega];exact IntWalk.i64_in _ (by omega)
      by_cases e3:l[m].cell<l[m+1].cell
      ·have HG:=Lib.hid (show putAtOk l n (m+1)=true by rw [HAT.out,e1,e2,e5,decide_eq_true e3];simp)
       have y4:¬ (l[m].cell ≥ l[m+1].cell):=by omega
       clear e1 e2 hbad
       go_wp2
       go_quiet (first | (go_at_call 89;with_reducible refine Calls.quiet_of_same (hc1 _ _)) | (go_at_call 121;with_reducible refine Calls.quiet_of_same (hc2 _ _)))
       go_wp2
       go_roundw
       case rel=>exact⟨m+1+1,by omega,by go_num,by unfold Hid;rw [range_all_succ,HA.out,HG.out];rfl,by repeat' (first | exact hbr1 _ | apply below_drewN1)⟩
       case measure=>simp [intOf];omega
      ·have HB:=Lib.hid (hbad (by rw [HAT.out,e1,e2,e5,decide_eq_false e3];simp))
       have y4:l[m].cell ≥ l[m+1].cell:=by omega
       clear e1 e2 hbad
       go_wp2
       go_quiet (first | (go_at_call 89;with_reducible refine Calls.quiet_of_same (hc1 _ _)) | (go_at_call 121;with_reducible refine Calls.quiet_of_same (hc2 _ _)))
       go_wp2
       go_ret
       exact⟨ret_bool HB.out.symm,by repeat' (first | exact hbr1 _ | apply below_drewN1)⟩
  ·have:=HA.out
   rw [show k=l.length by omega] at this
   have HB:=Lib.hid (show putsOk l n=true from this)
   clear this
   go_wp2
   go_ret
   exact⟨ret_bool HB.out.symm,hbr⟩
theorem regsOkI_calls (l:List Int)(A:Option Addr)(cap:Nat)(w:World)(S:Nat→Prop)(hr:Row Kd.int w S A l) :
  Calls Tryz.prog 122 #[.slice A l.length cap] w fun e w'=>e=.returned (.bool (regsOk l))∧w=w':=by
 have hm:=hr.1
 by_cases h:(l.length:Int)=3
 ·have b:((l.length:Int) == 3)=true:=by simp only [h];rfl
  have HH:=Lib.hid h
  clear h
  go_enter Tryz.func122,Tryz.ntmps122
  go_wp2_with (go_at_call 91;refine(allNums_calls l _ _ _ S hr).mono ?_;rintro e w' ⟨rfl,rfl⟩)
  go_ret
  exact⟨ret_bool (by unfold regsOk;rw [decide_eq_true HH.out];simp),rfl⟩
 ·have b:((l.length:Int) == 3)=false:=beq_eq_false_iff_ne.2 h
  have HH:=Lib.hid h
  clear h
  go_enter Tryz.func122,Tryz.ntmps122
  go_wp2
  go_ret
  exact⟨ret_bool (by unfold regsOk;rw [decide_eq_false HH.out];simp),rfl⟩
theorem cellsOkI_calls (s:Sys)(A B C:Option Addr)(ca cb cc:Nat)(w:World)(S:Nat→Prop)(hC:Row kCell w S A s.cells) :
  Calls Tryz.prog 82 #[.agg #[.slice A s.cells.length ca,.slice B s.tasks.length cb,.int .i64 s.clock,.slice C s.log.length cc]] w fun e w'=>e=.returned (.bool (cellsOkI s))∧Below w.heap.size w w':=by
 have hm:=hC.1
 obtain⟨W,HW⟩:∃ W,W=w.alloc (Obj.cells #[.slice A s.cells.length ca,.slice B s.tasks.length cb,.int .i64 s.clock,.slice C s.log.length cc] 45):=⟨_,rfl⟩
 have hbW:Below w.heap.size w W:=by rw [HW];exact alB w _
 have hzW:W.heap.size=w.heap.size+1:=by rw [HW];simp
 have bs0:W.cell? ⟨w.heap.size,0,none⟩=some (.slice A s.cells.length ca):=by rw [HW];simp [go_sem]
 have bs2:W.cell? ⟨w.heap.size,2,none⟩=some (.int .i64 s.clock):=by rw [HW];simp [go_sem]
 have hs:w.heap.size<W.heap.size:=by omega
 have HWW:=Lib.hid HW
 have HZ:=Lib.hid hzW
 have b0:=fun o=>(alB w o)
 clear HW hzW
 go_enter Tryz.func82,Tryz.ntmps82
 go_wp2
 rw [← HWW.out]
 go_loopw [4,8] (fun _ i wr=>∃ k:Nat,k≤s.cells.length∧i=.int .i64 k∧Hid ((s.cells.take k).all (fun c=>inR c.num 0 99 && inR c.time 0 s.clock)=true)∧Below W.heap.size W wr) (fun _ i _=>s.cells.length-(intOf i).toNat)
 case atStart=>exact⟨0,Nat.zero_le _,rfl,by simp [Hid],Below.refl _ _⟩
 case round =>
  obtain⟨i,hi,rfl,HA,hbr⟩:=hrel
  by_cases hlt:i<s.cells.length
  ·obtain⟨wo,rfl⟩:∃ wo:World,wo=wr:=⟨_,rfl⟩
   have hbo:Below w.heap.size w wo:=below_then hbW hbW.size hbr
   obtain⟨ac,rfl,hlc,c0,c1,c2⟩:=at_cell (hC.belowAll hbo) hlt
   have x1:(i:Int)<s.cells.length:=by omega
   have x3:(0:Int)≤i:=by omega
   have hsw:w.heap.size<wo.heap.size:=Nat.lt_of_lt_of_le hs hbr.size
   have zt2:=fun o=>((alB wo o).cell (p:=⟨w.heap.size,2,none⟩) hsw).trans ((hbr.cell (p:=⟨w.heap.size,2,none⟩) hs).trans bs2)
   have hbo1:=fun o=>below_then hbo hbo.size (alB wo o)
   have hbr1:=fun o=>below_then hbr hbr.size (alB wo o)
   have hbad:(inR s.cells[i].num 0 99 && inR s.cells[i].time 0 s.clock)=false→cellsOkI s=false:=fun h=>all_false_of _ _ i hlt h
   have HBAD:=Lib.hid hbad
   clear hbad
   cases e1:inR s.cells[i].num 0 99 with
   | false =>
    have E1:=Lib.hid e1
    clear e1
    go_wp2_with (go_at_call 121;refine(isNum_calls _ _).mono ?_;rintro e w' ⟨rfl,rfl⟩;rw [E1.out])
    go_ret
    exact⟨ret_bool (HBAD.out (by rw [E1.out];rfl)).symm,hbo1 _⟩
   | true =>
    have E1:=Lib.hid e1
    clear e1
    by_cases g1:s.cells[i].time<0
    ·have HG:=Lib.hid g1
     go_wp2_with (go_at_call 121;refine(isNum_calls _ _).mono ?_;rintro e w' ⟨rfl,rfl⟩;rw [E1.out])
     go_ret
     exact⟨ret_bool (HBAD.out (by rw [E1.out];simp [inR];omega)).symm,hbo1 _⟩
    ·by_cases g2:s.cells[i].time > s.clock
     ·have HG:=Lib.hid g2
      go_wp2_with (go_at_call 121;refine(isNum_calls _ _).mono ?_;rintro e w' ⟨rfl,rfl⟩;rw [E1.out])
      go_ret
      exact⟨ret_bool (HBAD.out (by rw [E1.out];simp [inR];omega)).symm,hbo1 _⟩
     ·have HG:=Lib.hid (show inR s.cells[i].time 0 s.clock=true by simp [inR];omega)
      go_wp2_with (go_at_call 121;refine(isNum_calls _ _).mono ?_;rintro e w' ⟨rfl,rfl⟩;rw [E1.out])
      go_roundw
      case rel=>exact⟨i+1,by omega,by go_num,by unfold Hid;rw [all_take_snoc _ _ _ hlt,HA.out,E1.out,HG.out];rfl,hbr1 _⟩
      case measure=>simp [intOf];omega
  ·have HB:Hid (cellsOkI s=true):=Lib.hid (by have:=HA.out;rw [all_take_all _ _ _ (by omega)] at this;exact this)
   go_wp2
   go_ret
   exact⟨ret_bool HB.out.symm,below_then hbW hbW.size hbr⟩
end Go.Proofs.YtjacjafmimgfcaaGreat
