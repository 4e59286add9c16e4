/- The program's look at acts.; The program's word on a program.; The program's word on a program: all of it.; The laws' helpers: sizes; rows of numbers compared.; The laws' helpers: the size of a program.; The laws' helpers: what is equal is found equal.; Rows of one's own within rows of one's own; a row made of zeros.; The laws' helpers: copies in new memory. -/
import Derived.Deep.RegionHeld3
import Derived.Deep.DrawnRows
import Derived.Test.YtjacjafmimgfcaaGreatWac
import Derived.Test.YtjacjafmimgfcaaGreatWad
import Derived.Test.YtjacjafmimgfcaaGreatWae
import Derived.Test.YtjacjafmimgfcaaGreatWas
set_option maxHeartbeats 2000000
set_option maxRecDepth 100000
set_option linter.unusedVariables false
set_option linter.unusedSimpArgs false
namespace Go.Proofs.YtjacjafmimgfcaaGreat
open Go.RowKit
attribute [local go_sem] ta_loadDeed_loadDeed ta_storeDeed_loadDeed ta_numDeed_loadDeed ta_addDeed_loadDeed ta_needDeed_loadDeed ta_nil_loadDeed ta_loadDeed_storeDeed ta_storeDeed_storeDeed ta_numDeed_storeDeed ta_addDeed_storeDeed ta_needDeed_storeDeed ta_nil_storeDeed ta_loadDeed_numDeed ta_storeDeed_numDeed ta_numDeed_numDeed ta_addDeed_numDeed ta_needDeed_numDeed ta_nil_numDeed ta_loadDeed_addDeed ta_storeDeed_addDeed ta_numDeed_addDeed ta_addDeed_addDeed ta_needDeed_addDeed ta_nil_addDeed ta_loadDeed_needDeed ta_storeDeed_needDeed ta_numDeed_needDeed ta_addDeed_needDeed ta_needDeed_needDeed ta_nil_needDeed ta_tryAct_tryAct ta_forkAct_tryAct ta_failAct_tryAct ta_failIfAct_tryAct ta_nil_tryAct ta_tryAct_forkAct ta_forkAct_forkAct ta_failAct_forkAct ta_failIfAct_forkAct ta_nil_forkAct ta_tryAct_failAct ta_forkAct_failAct ta_failAct_failAct ta_failIfAct_failAct ta_nil_failAct ta_tryAct_failIfAct ta_forkAct_failIfAct ta_failAct_failIfAct ta_failIfAct_failIfAct ta_nil_failIfAct
def partAV (k:Int) (deeds:List Deed) (kids:List Int) (reg:Int) (D E:Option Addr) (cd ce:Nat):Value :=
 if k=1∧kids=[]∧reg=0 then .iface 199 (.agg #[.slice D deeds.length cd])
 else if k=2∧deeds=[]∧reg=0 then .iface 201 (.agg #[.slice E kids.length ce])
 else if k=3∧deeds=[]∧kids=[]∧reg=0 then .iface 203 (.agg #[])
 else if k=4∧deeds=[]∧kids=[] then .iface 205 (.agg #[.int .i64 reg])
 else .nilIface
theorem partOfAct_calls (k:Int)(deeds:List Deed)(kids:List Int)(reg:Int)(D E:Option Addr)(cd ce:Nat)(w:World)(hm3:deeds.length≤9223372036854775807)(hm4:kids.length≤9223372036854775807) :
  Calls Tryz.prog 119 #[.agg #[.int .i64 k,.slice D deeds.length cd,.slice E kids.length ce,.int .i64 reg]] w
   fun e w'=>e=.returned (partAV k deeds kids reg D E cd ce)∧Below w.heap.size w w':=by
 by_cases hr:reg=0<;>rcases deeds with _ | ⟨d0,dr⟩<;>rcases kids with _ | ⟨k0,kr⟩
 all_goals
  simp only [List.length_cons,List.length_nil] at *
  try subst hr
  go_enter Tryz.func119,Tryz.ntmps119
  go_wp2
  go_quiet (fail)
  go_wp2
  all_goals
   go_ret
   exact⟨by simp_all [partAV],(by repeat (first | exact Below.refl _ _ | (refine Below.alloc ?_ (by simp) _) | (refine Below.setCell ?_ (by simp) _) | (refine below_drewN' ?_ _) | (refine Below.drew ?_)))⟩
theorem actOk_nil (c body bodies:Int)(w:World):Calls Tryz.prog 118 #[.nilIface,.int .i64 c,.int .i64 body,.int .i64 bodies] w fun e w'=>e=.returned (.bool false)∧Below w.heap.size w w':=by
 go_enter Tryz.func118,Tryz.ntmps118
 go_wp2
 go_ret
 exact⟨rfl,(by repeat (first | exact Below.refl _ _ | (refine Below.alloc ?_ (by simp) _) | (refine Below.setCell ?_ (by simp) _) | (refine below_drewN' ?_ _) | (refine Below.drew ?_)))⟩
theorem actOk_fail (c body bodies:Int)(w:World):Calls Tryz.prog 118 #[.iface 203 (.agg #[]),.int .i64 c,.int .i64 body,.int .i64 bodies] w fun e w'=>e=.returned (.bool true)∧Below w.heap.size w w':=by
 go_enter Tryz.func118,Tryz.ntmps118
 go_wp2
 go_ret
 exact⟨rfl,(by repeat (first | exact Below.refl _ _ | (refine Below.alloc ?_ (by simp) _) | (refine Below.setCell ?_ (by simp) _) | (refine below_drewN' ?_ _) | (refine Below.drew ?_)))⟩
theorem actOk_failIf (reg c body bodies:Int)(w:World):Calls Tryz.prog 118 #[.iface 205 (.agg #[.int .i64 reg]),.int .i64 c,.int .i64 body,.int .i64 bodies] w fun e w'=>e=.returned (.bool (inR reg 0 2))∧Below w.heap.size w w':=by
 go_enter Tryz.func118,Tryz.ntmps118
 go_wp2_with (go_at_call 151;refine(isReg_calls _ _).mono ?_;rintro e w' ⟨rfl,rfl⟩)
 go_ret
 exact⟨rfl,(by repeat (first | exact Below.refl _ _ | (refine Below.alloc ?_ (by simp) _) | (refine Below.setCell ?_ (by simp) _) | (refine below_drewN' ?_ _) | (refine Below.drew ?_)))⟩
theorem actOk_try (deeds:List Deed)(D:Option Addr)(cd:Nat)(c body bodies:Int)(w:World)(S:Nat→Prop)(hd:Row kDeed w S D deeds)(h1:c≤9223372036854775807) :
  Calls Tryz.prog 118 #[.iface 199 (.agg #[.slice D deeds.length cd]),.int .i64 c,.int .i64 body,.int .i64 bodies] w fun e w'=>e=.returned (.bool (changeOk deeds c))∧Below w.heap.size w w':=by
 have hd1:=fun o=>hd.belowAll ((Below.refl _ w).alloc (Nat.le_refl _) o)
 go_enter Tryz.func118,Tryz.ntmps118
 go_wp2_with (go_at_call 90;refine(changeOk_calls deeds _ _ _ _ S (hd1 _) h1).mono ?_;rintro e w1 ⟨rfl,hb1⟩)
 go_ret
 exact⟨rfl,((Below.refl _ _).alloc (Nat.le_refl _) _).trans (hb1.mono (by simp))⟩
theorem actOk_fork (kids:List Int)(E:Option Addr)(ce:Nat)(c body bodies:Int)(w:World)(S:Nat→Prop)(hk:Row Kd.int w S E kids) :
  Calls Tryz.prog 118 #[.iface 201 (.agg #[.slice E kids.length ce]),.int .i64 c,.int .i64 body,.int .i64 bodies] w fun e w'=>e=.returned (.bool (kidsOk kids body bodies))∧Below w.heap.size w w':=by
 have hm:=hk.1
 go_enter Tryz.func118,Tryz.ntmps118
 go_wp2
 obtain⟨W2,HW⟩:∃ W2,W2=w.alloc (Obj.cells #[.slice E kids.length ce] 201):=⟨_,rfl⟩
 have hb2:Below w.heap.size w W2:=by rw [HW];exact(by repeat (first | exact Below.refl _ _ | (refine Below.alloc ?_ (by simp) _) | (refine Below.setCell ?_ (by simp) _) | (refine below_drewN' ?_ _) | (refine Below.drew ?_)))
 have hk2:=hk.belowAll hb2
 have c0:W2.cell? ⟨w.heap.size,0,none⟩=some (.slice E kids.length ce):=by rw [HW];simp [go_sem]
 rw [← HW]
 clear HW
 go_loop [12,29] (fun _ i=>∃ k:Nat,k≤kids.length∧i=.int .i64 k∧Hid ((kids.take k).all (fun k=>inR k (body+1) (bodies-1))=true)) (fun _ i=>kids.length-(intOf i).toNat)
 case atStart=>exact⟨0,Nat.zero_le _,rfl,by simp [Hid]⟩
 case round =>
  obtain⟨k,hk,rfl,HA⟩:=hrel
  by_cases hlt:k<kids.length
  ·obtain⟨ad,rfl,hl,hc,hi⟩:=at_int hk2 hlt
   by_cases h1:kids[k]≤body
   ·go_wp2
    go_ret
    refine⟨ret_bool ?_,hb2⟩
    rw [kidsOk,all_false_of _ _ k hlt (by simp [inR];omega)];rfl
   ·by_cases h2:bodies≤kids[k]
    ·go_wp2
     go_ret
     refine⟨ret_bool ?_,hb2⟩
     rw [kidsOk,all_false_of _ _ k hlt (by simp [inR];omega)];rfl
    ·go_wp2
     go_round
     case rel=>exact⟨k+1,by omega,by go_num,by unfold Hid;rw [all_take_snoc _ _ _ hlt,HA.out];simp [inR];omega⟩
     case measure=>simp [intOf];omega
  ·have:=HA.out
   rw [all_take_all _ _ _ (by omega)] at this
   have HB:=Lib.hid this
   clear this
   by_cases hn:kids.length≤2
   ·by_cases h0:1≤kids.length
    ·go_wp2
     go_ret
     refine⟨ret_bool ?_,hb2⟩
     rw [kidsOk,HB.out];simp [inR];omega
    ·have h00:kids.length<1:=by omega
     go_wp2
     go_ret
     refine⟨ret_bool ?_,hb2⟩
     rw [kidsOk,HB.out];simp [inR];omega
   ·have h3:2<kids.length:=by omega
    go_wp2
    go_ret
    refine⟨ret_bool ?_,hb2⟩
    rw [kidsOk,HB.out];simp [inR];omega
end Go.Proofs.YtjacjafmimgfcaaGreat
namespace Go.Proofs.YtjacjafmimgfcaaGreat
open Go.RowKit
theorem treeOf_calls (p:Prog)(hf:formOk p=true):∀ (d:Nat)(hd:d≤4)(b:Nat)(hb:b<p.bodies.length)(hbd:p.bodies.length≤b+d)(A B:Option Addr)(ca cb:Nat)(w:World)(S:Nat→Prop)(hB:Row (Kd.slice kAct) w S B p.bodies),
  Calls Tryz.prog 120 #[.agg #[.slice A p.cells.length ca,.slice B p.bodies.length cb],.int .i64 (b:Nat)] w fun e w'=>e=.returned (.int .i64 (tree d p b))∧Below w.heap.size w w':=by
 intro d
 induction d with
 | zero=>intro _ b hb hbd;omega
 | succ d ih0 =>
  intro hd b hb hbd A B ca cb w S hB
  have ih:=Lib.hid ih0
  clear ih0
  have hacts:=formOk_acts hf hb
  obtain⟨acts,HA⟩:∃ acts,acts=p.bodies[b]:=⟨_,rfl⟩
  have hal:acts.length≤4:=by rw [HA];exact hacts.1
  have hlen:=formOk_len hf
  have hkid:∀ (i:Nat) (hi:i<acts.length) (k:Nat) (hk:k<acts[i].kids.length),acts[i].kids.length≤2∧(b:Int)+1≤acts[i].kids[k]∧acts[i].kids[k]≤(p.bodies.length:Int)-1:=by
   subst HA
   intro i hi k hk
   have:=hacts.2 _ (List.getElem_mem hi)
   exact⟨this.1,this.2 _ (List.getElem_mem hk)⟩
  have hsm:∀ (i:Nat) (hi:i<acts.length) (k:Nat),0≤actsSum (fun k=>tree d p k.toNat) (acts.take i)∧actsSum (fun k=>tree d p k.toNat) (acts.take i)≤52488∧0≤sumOf (fun k=>tree d p k.toNat) (acts[i].kids.take k)∧sumOf (fun k=>tree d p k.toNat) (acts[i].kids.take k)≤13122:=by
   subst HA
   intro i hi k
   exact treeSum_small hf d (by omega) b hb i k hi
  have hend:tree (d+1) p b=1+actsSum (fun k=>tree d p k.toNat) acts:=by rw [HA,tree,getD_at _ _ _ hb]
  have HE:=Lib.hid hend
  have HK:=Lib.hid hkid
  have HS:=Lib.hid hsm
  have hslot:Hid (p.bodies[b]=acts):=HA.symm
  have hm2:=hB.1
  obtain⟨ad,C,cc,rfl,hl,hc,hcl,hC0⟩:=at_slice hB hb
  rw [← HA] at hc hcl hC0
  clear hacts hend hkid hsm HA
  have hma:=hC0.1
  have hcW:∀ o,(w.alloc o).cell? (ad.add b)=some (.slice C acts.length cc):=fun o=>by rw [World.cell?_alloc_lt _ _ _ (by rw [block_add];exact hl)];exact hc
  go_enter Tryz.func120,Tryz.ntmps120
  go_wp2
  clear hcW
  obtain⟨W2,HW⟩:∃ W2,W2=w.alloc (Obj.cells #[.slice A p.cells.length ca,.slice (some ad) p.bodies.length cb] 39):=⟨_,rfl⟩
  have hb2:Below w.heap.size w W2:=by rw [HW];exact(Below.refl _ _).alloc (Nat.le_refl _) _
  have hz2:W2.heap.size=w.heap.size+1:=by rw [HW];simp
  have c0:W2.cell? ⟨w.heap.size,0,none⟩=some (.slice A p.cells.length ca):=by rw [HW];simp [go_sem]
  have c1:W2.cell? ⟨w.heap.size,1,none⟩=some (.slice (some ad) p.bodies.length cb):=by rw [HW];simp [go_sem]
  have hB2:=hB.belowAll hb2
  have hC2:=hC0.belowAll hb2
  rw [← HW]
  have HZ:=Lib.hid hz2
  clear HW hz2 hB hC0 hc
  go_loopw [5,16] (fun n i wr=>∃ j:Nat,j≤acts.length∧i=.int .i64 j∧n=.int .i64 (1+actsSum (fun k=>tree d p k.toNat) (acts.take j))∧Below W2.heap.size W2 wr) (fun _ i _=>acts.length-(intOf i).toNat)
  case atStart=>exact⟨0,Nat.zero_le _,rfl,by simp [actsSum,sumOf],Below.refl _ _⟩
  case round =>
   obtain⟨j,hj,rfl,rfl,hbr⟩:=hrel
   by_cases hlt:j<acts.length
   ·obtain⟨ad2,D,cd,E,ce,rfl,hl3,k0,k1,k2,k3,hcd,hce,hD,hE,hi1,hi2⟩:=at_act (hC2.belowAll hbr) hlt
    have hme:=hE.1
    go_wp2
    obtain⟨wo,HWO⟩:∃ wo:World,wo=wr.alloc (Obj.cells #[.int .i64 acts[j].kind,.slice D acts[j].deeds.length cd,.slice E acts[j].kids.length ce,.int .i64 acts[j].reg] 120):=⟨_,rfl⟩
    have hbo:Below W2.heap.size W2 wo:=by rw [HWO];exact hbr.alloc hbr.size _
    have hEo:Row Kd.int wo S E acts[j].kids:=hE.belowAll (by rw [HWO];exact(by repeat (first | exact Below.refl _ _ | (refine Below.alloc ?_ (by simp) _) | (refine Below.setCell ?_ (by simp) _) | (refine below_drewN' ?_ _) | (refine Below.drew ?_))))
    rw [← HWO]
    clear HWO
    go_loopw [5,23] (fun n v wr=>∃ k:Nat,k≤acts[j].kids.length∧v=.int .i64 k∧n=.int .i64 (1+actsSum (fun k=>tree d p k.toNat) (acts.take j)+sumOf (fun k=>tree d p k.toNat) (acts[j].kids.take k))∧Below wo.heap.size wo wr) (fun _ v _=>acts[j].kids.length-(intOf v).toNat)
    case atStart=>exact⟨0,Nat.zero_le _,rfl,by simp [sumOf],Below.refl _ _⟩
    case round =>
     obtain⟨k,hk,rfl,rfl,hbj⟩:=hrel
     have hbj2:Below W2.heap.size W2 wr:=below_then hbo hbo.size hbj
     have c0j:=(hbj2.cell (p:=⟨w.heap.size,0,none⟩) (by rw [HZ.out];simp)).trans c0
     have c1j:=(hbj2.cell (p:=⟨w.heap.size,1,none⟩) (by rw [HZ.out];simp)).trans c1
     by_cases hlk:k<acts[j].kids.length
     ·obtain⟨ad3,rfl,hl4,hck,hik⟩:=at_int (hEo.belowAll hbj) hlk
      have hkk:=HK.out j hlt k hlk
      have hss:=HS.out j hlt k
      have hts:=tree_small hf d acts[j].kids[k].toNat (by omega)
      obtain⟨q,hq⟩:∃ q:Nat,acts[j].kids[k]=(q:Int):=⟨acts[j].kids[k].toNat,by omega⟩
      have HQ:=Lib.hid hq
      rw [hq] at hck hkk hts
      simp only [Int.toNat_natCast] at hts
      have hBq:=hB2.belowAll hbj2
      clear hq
      go_wp2_with (go_at_call 120;refine(ih.out (by omega) q (by omega) (by omega) _ _ _ _ _ S hBq).mono ?_;rintro e w1 ⟨rfl,hb1⟩)
      go_roundw
      case rel =>
       refine⟨k+1,by omega,by go_num,?_,below_then hbj hbj.size hb1⟩
       rw [sumOf_snoc _ _ _ hlk,HQ.out]
       exact val_int (by simp only [Int.toNat_natCast];omega)
      case measure=>simp [intOf];omega
     ·go_wp2
      go_roundw
      case rel =>
       refine⟨j+1,by omega,by go_num,?_,hbj2⟩
       rw [actsSum_snoc _ _ _ hlt,sumOf_all _ _ _ (by omega)];go_num
      case measure=>simp [intOf];omega
   ·go_wp2
    go_ret
    refine⟨?_,hb2.trans (hbr.mono (by rw [HZ.out];omega))⟩
    exact ret_int (by rw [HE.out,actsSum_all _ _ _ (by omega)])
theorem actOk_part (a:Act)(D E:Option Addr)(cd ce:Nat)(c body bodies:Int)(w:World)(S:Nat→Prop)(hd:Row kDeed w S D a.deeds)(hk:Row Kd.int w S E a.kids)(h0:0≤c)(h1:c≤3) :
  Calls Tryz.prog 118 #[partAV a.kind a.deeds a.kids a.reg D E cd ce,.int .i64 c,.int .i64 body,.int .i64 bodies] w fun e w'=>e=.returned (.bool (actOk a c body bodies))∧Below w.heap.size w w':=by
 obtain⟨k,deeds,kids,reg⟩:=a
 by_cases k1:k=1∧kids=[]∧reg=0
 ·obtain⟨rfl,rfl,rfl⟩:=k1
  have:=actOk_try deeds D cd c body bodies w S hd (by omega)
  simp only [partAV]
  refine this.mono ?_
  rintro e w' ⟨rfl,hb⟩
  refine⟨?_,hb⟩
  simp only [actOk,changeOk,inR]
  simp [h0,h1]
 ·by_cases k2:k=2∧deeds=[]∧reg=0
  ·obtain⟨rfl,rfl,rfl⟩:=k2
   have:=actOk_fork kids E ce c body bodies w S hk
   simp only [partAV]
   refine this.mono ?_
   rintro e w' ⟨rfl,hb⟩
   exact⟨by simp [actOk],hb⟩
  ·by_cases k3:k=3∧deeds=[]∧kids=[]∧reg=0
   ·obtain⟨rfl,rfl,rfl,rfl⟩:=k3
    refine(actOk_fail c body bodies w).mono ?_
    rintro e w' ⟨rfl,hb⟩
    exact⟨by simp [actOk],hb⟩
   ·by_cases k4:k=4∧deeds=[]∧kids=[]
    ·obtain⟨rfl,rfl,rfl⟩:=k4
     refine(actOk_failIf reg c body bodies w).mono ?_
     rintro e w' ⟨rfl,hb⟩
     exact⟨by simp [actOk],hb⟩
    ·have hv:partAV k deeds kids reg D E cd ce=.nilIface:=by simp only [partAV,if_neg k1,if_neg k2,if_neg k3,if_neg k4]
     simp only [hv]
     refine(actOk_nil c body bodies w).mono ?_
     rintro e w' ⟨rfl,hb⟩
     refine⟨ret_bool ?_,hb⟩
     symm
     unfold actOk
     split
     ·rename_i h;subst h;simp at k1;by_cases kids=[]<;>by_cases reg=0<;>simp_all
     ·split
      ·rename_i h;subst h;simp at k2;by_cases deeds=[]<;>by_cases reg=0<;>simp_all
      ·split
       ·rename_i h;subst h;simp at k3;by_cases deeds=[]<;>by_cases kids=[]<;>by_cases reg=0<;>simp_all
       ·split
        ·rename_i h;subst h;simp at k4;by_cases deeds=[]<;>by_cases kids=[]<;>simp_all
        ·rfl
end Go.Proofs.YtjacjafmimgfcaaGreat
namespace Go.Proofs.YtjacjafmimgfcaaGreat
open Go.RowKit
theorem implProgOk_calls (p:Prog)(A B:Option Addr)(ca cb:Nat)(w:World)(S:Nat→Prop)(hA:Row Kd.int w S A p.cells)(hB:Row (Kd.slice kAct) w S B p.bodies) :
  Calls Tryz.prog 81 #[.agg #[.slice A p.cells.length ca,.slice B p.bodies.length cb]] w fun e w'=>e=.returned (.bool (progOk p))∧Below w.heap.size w w':=by
 have hm1:=hA.1
 have hm2:=hB.1
 have hb1:∀ o,Below w.heap.size w (w.alloc o):=fun o=>(Below.refl _ _).alloc (Nat.le_refl _) _
 have hA1:=fun o=>hA.belowAll (hb1 o)
 by_cases hc3:p.cells.length≤3
 rotate_left
 ·have hc3':3<p.cells.length:=by omega
  have hf:progOk p=false:=by simp [progOk,formOk,hc3]
  rw [hf]
  clear hf
  go_enter Tryz.func81,Tryz.ntmps81
  go_wp2
  go_ret
  exact⟨rfl,hb1 _⟩
 cases hn:numsOk p.cells
 ·have hf:progOk p=false:=by simp [progOk,formOk,hn]
  rw [hf]
  clear hf
  have HN:=Lib.hid hn
  clear hn
  go_enter Tryz.func81,Tryz.ntmps81
  go_wp2_with (go_at_call 91;refine(allNums_calls _ _ _ _ S (hA1 _)).mono ?_;rintro e w' ⟨rfl,rfl⟩;rw [HN.out])
  go_ret
  exact⟨rfl,hb1 _⟩
 by_cases hb0:1≤p.bodies.length∧p.bodies.length≤4
 rotate_left
 ·have hf:progOk p=false:=by simp [progOk,formOk,inR];omega
  rw [hf]
  clear hf
  have HN:=Lib.hid hn
  clear hn
  by_cases hb5:p.bodies.length<1
  ·go_enter Tryz.func81,Tryz.ntmps81
   go_wp2_with (go_at_call 91;refine(allNums_calls _ _ _ _ S (hA1 _)).mono ?_;rintro e w' ⟨rfl,rfl⟩;rw [HN.out])
   go_ret
   exact⟨rfl,hb1 _⟩
  ·have hb6:4<p.bodies.length:=by omega
   go_enter Tryz.func81,Tryz.ntmps81
   go_wp2_with (go_at_call 91;refine(allNums_calls _ _ _ _ S (hA1 _)).mono ?_;rintro e w' ⟨rfl,rfl⟩;rw [HN.out])
   go_ret
   exact⟨rfl,hb1 _⟩
 obtain⟨hbl1,hbl4⟩:=hb0
 have HN:=Lib.hid hn
 clear hn
 go_enter Tryz.func81,Tryz.ntmps81
 go_wp2_with (go_at_call 91;refine(allNums_calls _ _ _ _ S (hA1 _)).mono ?_;rintro e w' ⟨rfl,rfl⟩;rw [HN.out])
 obtain⟨W2,HW⟩:∃ W2,W2=w.alloc (Obj.cells #[.slice A p.cells.length ca,.slice B p.bodies.length cb] 39):=⟨_,rfl⟩
 have hb2:Below w.heap.size w W2:=by rw [HW];exact hb1 _
 have hz2:W2.heap.size=w.heap.size+1:=by rw [HW];simp
 have c0:W2.cell? ⟨w.heap.size,0,none⟩=some (.slice A p.cells.length ca):=by rw [HW];simp [go_sem]
 have c1:W2.cell? ⟨w.heap.size,1,none⟩=some (.slice B p.bodies.length cb):=by rw [HW];simp [go_sem]
 have hB2:=hB.belowAll hb2
 rw [← HW]
 have HZ:=Lib.hid hz2
 clear HW hz2 hA1 hb1
 go_loopw [30] (fun i wr=>∃ k:Nat,k≤p.bodies.length∧i=.int .i64 k∧Hid ((List.range k).all (fun i=>bodyOk (p.bodies.getD i []) p.cells.length i p.bodies.length)=true)∧Below W2.heap.size W2 wr) (fun i _=>p.bodies.length-(intOf i).toNat)
 case atStart=>exact⟨0,Nat.zero_le _,rfl,by simp [Hid],Below.refl _ _⟩
 case round =>
  obtain⟨i,hi,rfl,HB,hbr⟩:=hrel
  have c0r:=(hbr.cell (p:=⟨w.heap.size,0,none⟩) (by rw [HZ.out];simp)).trans c0
  have c1r:=(hbr.cell (p:=⟨w.heap.size,1,none⟩) (by rw [HZ.out];simp)).trans c1
  by_cases hlt:i<p.bodies.length
  ·obtain⟨ad,C,cc,HBad,hl,hc,hcl,hC⟩:=at_slice (hB2.belowAll hbr) hlt
   subst HBad
   have hmc:=hC.1
   by_cases hb4:p.bodies[i].length≤4
   rotate_left
   ·have hb4':4<p.bodies[i].length:=by omega
    have hf:bodiesOk p.cells.length p.bodies=false:=range_all_false _ _ i hlt (by rw [getD_at _ _ _ hlt,bodyOk,decide_eq_false hb4];rfl)
    have HF:=Lib.hid hf
    clear hf
    go_wp2
    go_ret
    refine⟨ret_bool ?_,hb2.trans (hbr.mono (by rw [HZ.out];omega))⟩
    simp [progOk,formOk,HF.out]
   ·go_wp2
    obtain⟨wo,rfl⟩:∃ wo:World,wo=wr:=⟨_,rfl⟩
    go_loopw [40] (fun v wr=>∃ j:Nat,j≤p.bodies[i].length∧v=.int .i64 j∧Hid ((p.bodies[i].take j).all (fun a=>actOk a p.cells.length i p.bodies.length)=true)∧Below wo.heap.size wo wr) (fun v _=>p.bodies[i].length-(intOf v).toNat)
    case atStart=>exact⟨0,Nat.zero_le _,rfl,by simp [Hid],Below.refl _ _⟩
    case round =>
     obtain⟨j,hj,rfl,HJ,hbj⟩:=hrel
     have hsz:=hbr.size
     rw [HZ.out] at hsz
     have hbj2:Below W2.heap.size W2 wr:=below_then hbr hbr.size hbj
     have c0j:=(hbj2.cell (p:=⟨w.heap.size,0,none⟩) (by rw [HZ.out];simp)).trans c0
     have c1j:=(hbj2.cell (p:=⟨w.heap.size,1,none⟩) (by rw [HZ.out];simp)).trans c1
     by_cases hlj:j<p.bodies[i].length
     ·obtain⟨ad2,D,cd,E,ce,rfl,hl2,k0,k1,k2,k3,hcd,hce,hD,hE,hi1,hi2⟩:=at_act (hC.belowAll hbj) hlj
      have hmd:=hD.1
      have hme:=hE.1
      have hwz:=hbj2.size
      rw [HZ.out] at hwz
      go_wp2
      obtain⟨W3,HW3⟩:∃ W3,W3=wr.alloc (Obj.cells #[.int .i64 p.bodies[i][j].kind,.slice D p.bodies[i][j].deeds.length cd,.slice E p.bodies[i][j].kids.length ce,.int .i64 p.bodies[i][j].reg] 120):=⟨_,rfl⟩
      have hb3:Below wr.heap.size wr W3:=by rw [HW3];exact(by repeat (first | exact Below.refl _ _ | (refine Below.alloc ?_ (by simp) _) | (refine Below.setCell ?_ (by simp) _) | (refine below_drewN' ?_ _) | (refine Below.drew ?_)))
      have hz3:wr.heap.size<W3.heap.size:=by rw [HW3];simp
      have d0:W3.cell? ⟨wr.heap.size,0,none⟩=some (.int .i64 p.bodies[i][j].kind):=by rw [HW3];simp [go_sem]
      have d1:W3.cell? ⟨wr.heap.size,1,none⟩=some (.slice D p.bodies[i][j].deeds.length cd):=by rw [HW3];simp [go_sem]
      have d2:W3.cell? ⟨wr.heap.size,2,none⟩=some (.slice E p.bodies[i][j].kids.length ce):=by rw [HW3];simp [go_sem]
      have d3:W3.cell? ⟨wr.heap.size,3,none⟩=some (.int .i64 p.bodies[i][j].reg):=by rw [HW3];simp [go_sem]
      have d4:=(hb3.cell (p:=⟨w.heap.size,0,none⟩) (by simp;omega)).trans c0j
      have d5:=(hb3.cell (p:=⟨w.heap.size,1,none⟩) (by simp;omega)).trans c1j
      have hD3:=hD.belowAll hb3
      have hE3:=hE.belowAll hb3
      rw [← HW3]
      clear HW3 c0j c1j c0r c1r c0 c1 k0 k1 k2 k3
      have hbw:Below W3.heap.size W3 W3.drew:=(Below.refl _ _).drew
      have hbe:∀ w1,Below W3.heap.size W3 w1→Below wr.heap.size wr w1:=fun w1 h=>hb3.trans (h.mono (by omega))
      cases ha:actOk p.bodies[i][j] p.cells.length i p.bodies.length
      all_goals
       have HA:=Lib.hid ha
       clear ha
       go_region_held3 (fun w'=>w'.cell? ⟨wr.heap.size,0,none⟩=some (.int .i64 p.bodies[i][j].kind)∧w'.cell? ⟨wr.heap.size,1,none⟩=some (.slice D p.bodies[i][j].deeds.length cd)∧w'.cell? ⟨wr.heap.size,2,none⟩=some (.slice E p.bodies[i][j].kids.length ce)∧w'.cell? ⟨wr.heap.size,3,none⟩=some (.int .i64 p.bodies[i][j].reg)∧w'.cell? ⟨w.heap.size,0,none⟩=some (.slice A p.cells.length ca)∧w'.cell? ⟨w.heap.size,1,none⟩=some (.slice (some ad) p.bodies.length cb)∧Below W3.heap.size W3 w') (go_keep)
        (first | (go_at_call 119;refine(partOfAct_calls _ _ _ _ _ _ _ _ _ hmd hme).mono ?_;rintro e w1 ⟨rfl,hb1⟩;have q0:=below_then ‹Below W3.heap.size W3 _› (Below.size ‹Below W3.heap.size W3 _›) hb1;have q1:=(q0.cell (p:=⟨wr.heap.size,0,none⟩) hz3).trans d0;have q2:=(q0.cell (p:=⟨wr.heap.size,1,none⟩) hz3).trans d1;have q3:=(q0.cell (p:=⟨wr.heap.size,2,none⟩) hz3).trans d2;have q4:=(q0.cell (p:=⟨wr.heap.size,3,none⟩) hz3).trans d3;have q5:=(q0.cell (p:=⟨w.heap.size,0,none⟩) (by simp;omega)).trans d4;have q6:=(q0.cell (p:=⟨w.heap.size,1,none⟩) (by simp;omega)).trans d5) | (go_at_call 118;refine(actOk_part p.bodies[i][j] _ _ _ _ _ _ _ _ S (Row.belowAll hD3 ‹Below W3.heap.size W3 _›) (Row.belowAll hE3 ‹Below W3.heap.size W3 _›) (by omega) (by omega)).mono ?_;rintro e w1 ⟨rfl,hb1⟩;rw [HA.out];have q0:=below_then ‹Below W3.heap.size W3 _› (Below.size ‹Below W3.heap.size W3 _›) hb1;have q1:=(q0.cell (p:=⟨wr.heap.size,0,none⟩) hz3).trans d0;have q2:=(q0.cell (p:=⟨wr.heap.size,1,none⟩) hz3).trans d1;have q3:=(q0.cell (p:=⟨wr.heap.size,2,none⟩) hz3).trans d2;have q4:=(q0.cell (p:=⟨wr.heap.size,3,none⟩) hz3).trans d3;have q5:=(q0.cell (p:=⟨w.heap.size,0,none⟩) (by simp;omega)).trans d4;have q6:=(q0.cell (p:=⟨w.heap.size,1,none⟩) (by simp;omega)).trans d5))
      ·obtain⟨_,_,_,_,_,_,hbx⟩:=‹_∧_∧_∧_∧_∧_∧Below W3.heap.size W3 _›
       have hf:bodiesOk p.cells.length p.bodies=false:=range_all_false _ _ i hlt (by rw [getD_at _ _ _ hlt,bodyOk,all_false_of (fun a=>actOk a (p.cells.length:Int) i p.bodies.length) _ j hlj HA.out];simp)
       have HF:=Lib.hid hf
       clear hf
       have hby:=hbj2.trans ((hbe _ hbx).mono hbj2.size)
       go_wp2
       go_ret
       refine⟨ret_bool ?_,hb2.trans (hby.mono (by rw [HZ.out];omega))⟩
       simp [progOk,formOk,HF.out]
      ·obtain⟨_,_,_,_,_,_,hbx⟩:=‹_∧_∧_∧_∧_∧_∧Below W3.heap.size W3 _›
       have hby:=hbj.trans ((hbe _ hbx).mono hbj.size)
       go_wp2
       go_roundw
       case rel=>exact⟨j+1,by omega,by go_num,by unfold Hid;rw [all_take_snoc _ _ _ hlj,HJ.out,HA.out];rfl,hby⟩
       case measure=>simp [intOf];omega
     ·go_wp2
      go_roundw
      case rel =>
       refine⟨i+1,by omega,by go_num,?_,hbj2⟩
       unfold Hid
       rw [range_all_succ,HB.out,getD_at _ _ _ hlt,bodyOk,decide_eq_true hb4]
       have:=HJ.out
       rw [all_take_all _ _ _ (by omega)] at this
       rw [this];rfl
      case measure=>simp [intOf];omega
  ·have hb6:Below w.heap.size w wr:=hb2.trans (hbr.mono (by rw [HZ.out];omega))
   have hF:formOk p=true:=by
    obtain rfl:i=p.bodies.length:=by omega
    have h1:=HB.out;have h2:=HN.out
    simp only [formOk,bodiesOk,h1,h2,decide_eq_true hc3]
    simp [inR];omega
   have HF:=Lib.hid hF
   have ht:=tree_small hF 4 0 (by omega)
   clear hF
   go_wp2_with (go_at_call 120;refine(treeOf_calls p HF.out 4 (by omega) 0 (by omega) (by omega) _ _ _ _ _ S (hB2.belowAll hbr)).mono ?_;rintro e w2 ⟨rfl,hb4⟩)
   go_ret
   refine⟨ret_bool ?_,hb6.trans (hb4.mono hb6.size)⟩
   simp [progOk,HF.out]
end Go.Proofs.YtjacjafmimgfcaaGreat
namespace Go.Proofs.YtjacjafmimgfcaaGreat
open Go.RowKit
def dec (left n:Int):Int:=if n≤left then left-n else -1
def sizeAct (a:Act):Int:=a.deeds.length+a.kids.length
def tot {α:Type} (f:α→Int) (l:List α):Int:=(l.map f).sum
def sizeOf1 (l:List Act):Int:=l.length+tot sizeAct l
def sizeOf2 (l:List (List Act)):Int:=l.length+tot sizeOf1 l
def sizeOf3 (p:Prog):Int:=p.cells.length+sizeOf2 p.bodies
end Go.Proofs.YtjacjafmimgfcaaGreat
namespace Go.Proofs.YtjacjafmimgfcaaGreat
open Go.RowKit
end Go.Proofs.YtjacjafmimgfcaaGreat
namespace Go.Proofs.YtjacjafmimgfcaaGreat
open Go.RowKit
attribute [local go_sem ↓] Go.wp_at_zero Go.wp_at_succ
end Go.Proofs.YtjacjafmimgfcaaGreat
namespace Go.Proofs.YtjacjafmimgfcaaGreat
open Go.RowKit
def Kd.own {α:Type} (e base:Nat) (d:Kd α):Kd (List α) where
 sz:=1
 K:=fun w S xs cs=>∃ v,cs=[v]∧Own d e w base S v xs
 len:=by rintro w S x cs ⟨v,rfl,_⟩;rfl
 one:=by
  rintro w S x cs ⟨v,rfl,h⟩ u hu
  obtain⟨A,c,rfl,_⟩:=h.slice
  rw [List.mem_singleton.1 hu];rfl
 mono:=by rintro w S S' x cs hS ⟨v,rfl,h⟩;exact⟨v,rfl,h.mono hS⟩
 bound:=by rintro w S x cs ⟨v,rfl,h⟩;exact⟨v,rfl,h.bound⟩
 move:=by rintro w w' S x cs hm ⟨v,rfl,h⟩;exact⟨v,rfl,h.move hm⟩
def kActO (base:Nat):Kd Act:=Kd.iso (Kd.pair Kd.int (Kd.pair (Kd.own 124 base kDeed) (Kd.pair (Kd.own 3 base Kd.int) Kd.int))) (fun x:Act=>(x.kind,x.deeds,x.kids,x.reg))
def kBodyO (base:Nat):Kd (List Act):=Kd.own 120 base (kActO base)
theorem Row.map {α:Type}{d d':Kd α}{w:World}{S:Nat→Prop}{A:Option Addr}{xs:List α}(hs:d.sz=d'.sz)(hK:∀ x cs,d.K w S x cs→d'.K w S x cs)(h:Row d w S A xs):Row d' w S A xs :=
 ⟨h.1,fun hn=>by
  obtain⟨ad,e,hb,hl,hc⟩:=h.2 hn
  refine⟨ad,e,hb,hl,fun j x hj=>?_⟩
  obtain⟨c,hk,hcell⟩:=hc j x hj
  exact⟨c,hK x c hk,by rw [← hs];exact hcell⟩⟩
theorem made_flatten (z:List Value)(hz:0<z.length)(n:Nat):(madeCells z.toArray (n*z.length)).toList=(List.replicate n z).flatten:=by
 have key:∀ n,(List.range (n*z.length)).map (fun i=>z[i % z.length]!)=(List.replicate n z).flatten:=by
  intro n
  induction n with
  | zero=>simp
  | succ n ih =>
   have e:List.replicate (n+1) z=List.replicate n z ++ [z]:=by rw [List.replicate_succ']
   rw [e,List.flatten_append,Nat.succ_mul,List.range_add,List.map_append,ih]
   congr 1
   simp only [List.flatten_cons,List.flatten_nil,List.append_nil,List.map_map]
   refine List.ext_getElem (by simp) fun i h1 h2=>?_
   have hi:i<z.length:=h2
   simp only [List.getElem_map,List.getElem_range,Function.comp]
   rw [Nat.add_comm,Nat.add_mul_mod_self_right,Nat.mod_eq_of_lt hi]
   simp [hi]
 rw [← key n]
 simp [madeCells]
theorem Own.zeros {α:Type}{d:Kd α}{e:Nat}{w:World}{base:Nat}{S:Nat→Prop}(n:Nat)(z:List Value)(x0:α)(hz:z.length=d.sz)(h0:0<d.sz)(hk:∀ w S,d.K w S x0 z)(hb:base≤w.heap.size)(hS:S w.heap.size)(hn:n≤9223372036854775807) :
  Own d e (w.alloc (.cells (madeCells z.toArray (n*d.sz)) e)) base S (.slice (some ⟨w.heap.size,0,none⟩) n n) (List.replicate n x0):=by
 have hf:=made_flatten z (by omega) n
 rw [hz] at hf
 have hl:((List.replicate n z).flatten).length=n*d.sz:=by rw [← hf];simp [size_madeCells]
 refine own_intro (List.replicate n z) ⟨by rw [List.length_replicate];exact hl,.inr ⟨w.heap.size,n,_,by simp,hb,heap_alloc_new w _,by simp,by simp only [_root_.Go.maxLen];omega,by rw [size_madeCells],?_⟩⟩ (by simp) (fun k hk=>by simp [Value.ownBlock] at hk;rw [← hk];exact hS) (fun j x hj=>?_)
 ·rw [hf,List.length_replicate,List.take_of_length_le (by omega)]
 ·have hjn:j<n:=by have:=(List.getElem?_eq_some_iff.1 hj).1;simpa using this
  rw [List.getElem?_replicate,if_pos hjn] at hj
  injection hj with hj
  subst hj
  exact⟨z,by rw [List.getElem?_replicate,if_pos hjn],hk _ _⟩
theorem put_len {α:Type}(xs:List α)(x0:α)(k:Nat)(h:k≤xs.length):(xs.take k ++ List.replicate (xs.length-k) x0).length=xs.length:=by simp;omega
end Go.Proofs.YtjacjafmimgfcaaGreat
namespace Go.Proofs.YtjacjafmimgfcaaGreat
open Go.RowKit
theorem make_row {t e:TypeId}{z0:Value}{sz bytes:Nat}(ht:Tryz.prog.underlying t=some (.slice e))(hinfo:(Tryz.prog.info? e).map (fun i=>(i.zero,i.size,i.bytes))=some (some z0,sz,bytes))(zs:List Value)(hz:z0.cells=zs.toArray)(n:Nat)(hn:bytes*n≤281474976710656)(hm:n≤9223372036854775807)(w:World) :
  (Instr.makeSlice t (.int .i64 n) (.int .i64 n)).run Tryz.prog w=.ok (.slice (some ⟨w.heap.size,0,none⟩) n n) (w.alloc (.cells (madeCells zs.toArray (n*sz)) e)):=by
 cases h:Tryz.prog.info? e with
 | none=>rw [h] at hinfo;cases hinfo
 | some i =>
  rw [h] at hinfo
  simp only [Option.map_some,Option.some.injEq,Prod.mk.injEq] at hinfo
  obtain⟨h1,h2,h3⟩:=hinfo
  have:=run_make (P:=Tryz.prog) w t e i z0 ht h h1 .i64 .i64 n n (by omega) (by omega) (by rw [h3];omega) (by omega)
  rw [hz,h2] at this
  simpa using this
section
variable {α:Type}{d:Kd α}{e:Nat}{w:World}{base:Nat}{S:Nat→Prop}{xs:List α}{x0:α}
theorem Own.spot {g cap k i:Nat}(h:Own d e w base S (.slice (some ⟨g,0,none⟩) xs.length cap) (xs.take k ++ List.replicate (xs.length-k) x0))(hk:k<xs.length)(hi:i<d.sz):(∃ v,w.cell? ⟨g,k*d.sz+i,none⟩=some v)∧w.frozen? ⟨g,k*d.sz+i,none⟩=false:=by
 have hl:=put_len xs x0 k (Nat.le_of_lt hk)
 have h':Own d e w base S (.slice (some ⟨g,0,none⟩) (xs.take k ++ List.replicate (xs.length-k) x0).length cap) (xs.take k ++ List.replicate (xs.length-k) x0):=by rw [hl];exact h
 obtain⟨c,hc,hcell,hf⟩:=Own.cellAt h' (j:=k) (by omega)
 have hcl:=d.len hc
 exact⟨⟨c[i],hcell i _ (List.getElem?_eq_getElem (by omega))⟩,hf _⟩
end
def Copied {α:Type} (d:Kd α) (e:Nat) (xs:List α) (w:World) (en:Ending) (w':World):Prop :=
 ∃ v,en=.returned v∧Own d e w' w.heap.size (fun k=>w.heap.size≤k) v xs∧Below w.heap.size w w'
end Go.Proofs.YtjacjafmimgfcaaGreat
