/- How many tasks a body may be, and the reference's word on a program. -/
import Derived.Deep.RegionHeld3
import Derived.Test.YtjacjafmimgfcaaGreatWab
set_option maxHeartbeats 1000000
set_option maxRecDepth 100000
set_option linter.unusedVariables false
set_option linter.unusedSimpArgs false
namespace Go.Proofs.YtjacjafmimgfcaaGreat
open Go.RowKit
theorem pow9_le (d:Nat)(h:d≤4):(9:Int) ^ d≤6561:=by
 have:d=0∨d=1∨d=2∨d=3∨d=4:=by omega
 rcases this with rfl | rfl | rfl | rfl | rfl<;>decide
theorem tree_small {p:Prog}(h:formOk p=true)(d b:Nat)(hd:d≤4):0≤tree d p b∧tree d p b≤6561:=by
 have:=tree_bound h d b
 have:=pow9_le d hd
 omega
theorem treeSum_small {p:Prog}(h:formOk p=true)(d:Nat)(hd:d≤4)(b:Nat)(hb:b<p.bodies.length)(i k:Nat)(hi:i<p.bodies[b].length) :
  0≤actsSum (fun k=>tree d p k.toNat) (p.bodies[b].take i)∧actsSum (fun k=>tree d p k.toNat) (p.bodies[b].take i)≤52488∧0≤sumOf (fun k=>tree d p k.toNat) (p.bodies[b][i].kids.take k)∧sumOf (fun k=>tree d p k.toNat) (p.bodies[b][i].kids.take k)≤13122:=by
 have ha:=formOk_acts h hb
 have h1:=actsSum_bound (fun k=>tree d p k.toNat) 6561 (by decide) (p.bodies[b].take i) (fun a m=>(ha.2 a (List.mem_of_mem_take m)).1) (fun a _ k _=>tree_small h d _ hd)
 have h2:=sumOf_bound (fun k=>tree d p k.toNat) 6561 (p.bodies[b][i].kids.take k) (fun k _=>tree_small h d _ hd)
 have h3:(p.bodies[b].take i).length≤4:=by rw [List.length_take];omega
 have h4:(p.bodies[b][i].kids.take k).length≤2:=by rw [List.length_take];have:=(ha.2 _ (List.getElem_mem hi)).1;omega
 omega
theorem l1Tree_calls (p:Prog)(hf:formOk p=true):∀ (d:Nat)(hd:d≤4)(b:Nat)(hb:b<p.bodies.length)(hbd:p.bodies.length≤b+d)(A B:Option Addr)(ca cb:Nat)(w:World)(S:Nat→Prop)(hB:Row (Kd.slice kAct) w S B p.bodies),
  Calls Tryz.prog 108 #[.agg #[.slice A p.cells.length ca,.slice B p.bodies.length cb],.int .i64 (b:Nat)] w fun e w'=>e=.returned (.int .i64 (tree d p b))∧Below w.heap.size w w':=by
 intro d
 induction d with
 | zero=>intro _ b hb hbd;omega
 | succ d ih0 =>
  intro hd b hb hbd A B ca cb w S hB
  have ih:=Lib.hid ih0
  clear ih0
  have hacts:=formOk_acts hf hb
  obtain⟨acts,HA⟩:∃ acts,acts=p.bodies[b]:=⟨_,rfl⟩
  have hal:acts.length≤4:=by rw [HA];exact hacts.1
  have hlen:=formOk_len hf
  have hkid:∀ (i:Nat) (hi:i<acts.length) (k:Nat) (hk:k<acts[i].kids.length),acts[i].kids.length≤2∧(b:Int)+1≤acts[i].kids[k]∧acts[i].kids[k]≤(p.bodies.length:Int)-1:=by
   subst HA
   intro i hi k hk
   have:=hacts.2 _ (List.getElem_mem hi)
   exact⟨this.1,this.2 _ (List.getElem_mem hk)⟩
  have hsm:∀ (i:Nat) (hi:i<acts.length) (k:Nat),0≤actsSum (fun k=>tree d p k.toNat) (acts.take i)∧actsSum (fun k=>tree d p k.toNat) (acts.take i)≤52488∧0≤sumOf (fun k=>tree d p k.toNat) (acts[i].kids.take k)∧sumOf (fun k=>tree d p k.toNat) (acts[i].kids.take k)≤13122:=by
   subst HA
   intro i hi k
   exact treeSum_small hf d (by omega) b hb i k hi
  have hend:tree (d+1) p b=1+actsSum (fun k=>tree d p k.toNat) acts:=by rw [HA,tree,getD_at _ _ _ hb]
  have HE:=Lib.hid hend
  have HK:=Lib.hid hkid
  have HS:=Lib.hid hsm
  have hslot:Hid (p.bodies[b]=acts):=HA.symm
  have hm2:=hB.1
  obtain⟨ad,C,cc,rfl,hl,hc,hcl,hC0⟩:=at_slice hB hb
  rw [← HA] at hc hcl hC0
  clear hacts hend hkid hsm HA
  have hma:=hC0.1
  go_enter Tryz.func108,Tryz.ntmps108
  go_wp2
  obtain⟨W2,HW⟩:∃ W2,W2=w.alloc (Obj.cells #[.slice A p.cells.length ca,.slice (some ad) p.bodies.length cb] 39):=⟨_,rfl⟩
  have hb2:Below w.heap.size w W2:=by rw [HW];exact(Below.refl _ _).alloc (Nat.le_refl _) _
  have hz2:W2.heap.size=w.heap.size+1:=by rw [HW];simp
  have c0:W2.cell? ⟨w.heap.size,0,none⟩=some (.slice A p.cells.length ca):=by rw [HW];simp [go_sem]
  have c1:W2.cell? ⟨w.heap.size,1,none⟩=some (.slice (some ad) p.bodies.length cb):=by rw [HW];simp [go_sem]
  have hB2:=hB.belowAll hb2
  have hC2:=hC0.belowAll hb2
  have hcc2:=(hb2.cell (p:=ad.add b) (by rw [block_add];exact hl)).trans hc
  have hl2:ad.block<W2.heap.size:=by omega
  rw [← HW]
  have HZ:=Lib.hid hz2
  clear HW hz2 hB hC0 hc
  go_loopw [5,6,7,8] (fun n i _ _ wr=>∃ j:Nat,j≤acts.length∧i=.int .i64 j∧n=.int .i64 (1+actsSum (fun k=>tree d p k.toNat) (acts.take j))∧Below W2.heap.size W2 wr) (fun _ i _ _ _=>acts.length-(intOf i).toNat)
  case atStart=>exact⟨0,Nat.zero_le _,rfl,by simp [actsSum,sumOf],Below.refl _ _⟩
  case round =>
   obtain⟨j,hj,rfl,rfl,hbr⟩:=hrel
   have c0r:=(hbr.cell (p:=⟨w.heap.size,0,none⟩) (by rw [HZ.out];simp)).trans c0
   have c1r:=(hbr.cell (p:=⟨w.heap.size,1,none⟩) (by rw [HZ.out];simp)).trans c1
   have hcr:=(hbr.cell (p:=ad.add b) (by rw [block_add];exact hl2)).trans hcc2
   by_cases hlt:j<acts.length
   ·obtain⟨ad2,D,cd,E,ce,rfl,hl3,k0,k1,k2,k3,hcd,hce,hD,hE,hi1,hi2⟩:=at_act (hC2.belowAll hbr) hlt
    have hme:=hE.1
    go_wp2
    obtain⟨wo,rfl⟩:∃ wo:World,wo=wr:=⟨_,rfl⟩
    go_loopw [5,8] (fun n v wr=>∃ k:Nat,k≤acts[j].kids.length∧v=.int .i64 k∧n=.int .i64 (1+actsSum (fun k=>tree d p k.toNat) (acts.take j)+sumOf (fun k=>tree d p k.toNat) (acts[j].kids.take k))∧Below wo.heap.size wo wr) (fun _ v _=>acts[j].kids.length-(intOf v).toNat)
    case atStart=>exact⟨0,Nat.zero_le _,rfl,by simp [sumOf],Below.refl _ _⟩
    case round =>
     obtain⟨k,hk,rfl,rfl,hbj⟩:=hrel
     have hbj2:Below W2.heap.size W2 wr:=below_then hbr hbr.size hbj
     have c0j:=(hbj2.cell (p:=⟨w.heap.size,0,none⟩) (by rw [HZ.out];simp)).trans c0
     have c1j:=(hbj2.cell (p:=⟨w.heap.size,1,none⟩) (by rw [HZ.out];simp)).trans c1
     by_cases hlk:k<acts[j].kids.length
     ·obtain⟨ad3,rfl,hl4,hck,hik⟩:=at_int (hE.belowAll hbj) hlk
      have hkk:=HK.out j hlt k hlk
      have hss:=HS.out j hlt k
      have hts:=tree_small hf d acts[j].kids[k].toNat (by omega)
      obtain⟨q,hq⟩:∃ q:Nat,acts[j].kids[k]=(q:Int):=⟨acts[j].kids[k].toNat,by omega⟩
      have HQ:=Lib.hid hq
      rw [hq] at hck hkk hts
      simp only [Int.toNat_natCast] at hts
      have hBq:=hB2.belowAll hbj2
      clear hq
      go_wp2
      have hbw:Below wr.heap.size wr wr.drew:=(Below.refl _ _).drew
      go_region_held3 (fun w'=>w'.cell? ⟨w.heap.size,0,none⟩=some (.slice A p.cells.length ca)∧w'.cell? ⟨w.heap.size,1,none⟩=some (.slice (some ad) p.bodies.length cb)∧w'.cell? (ad3.add k)=some (.int .i64 (q:Int))∧Below wr.heap.size wr w') (go_keep)
       (first | (go_at_call 108;refine(ih.out (by omega) q (by omega) (by omega) _ _ _ _ _ S (Row.belowAll hBq ‹Below wr.heap.size wr _›)).mono ?_;rintro e w1 ⟨rfl,hb1⟩;have q0:=below_then ‹Below wr.heap.size wr _› (Below.size ‹Below wr.heap.size wr _›) hb1;have q1:=(q0.cell (p:=⟨w.heap.size,0,none⟩) (by have:=hbj2.size;rw [HZ.out] at this;simp;omega)).trans c0j;have q2:=(q0.cell (p:=⟨w.heap.size,1,none⟩) (by have:=hbj2.size;rw [HZ.out] at this;simp;omega)).trans c1j;have q3:=(q0.cell (p:=ad3.add k) (by rw [block_add];exact hl4)).trans hck))
      obtain⟨_,_,_,hbx⟩:=‹_∧_∧_∧Below wr.heap.size wr w1›
      go_wp2
      go_roundw
      case rel =>
       refine⟨k+1,by omega,by go_num,?_,below_then hbj hbj.size hbx⟩
       rw [sumOf_snoc _ _ _ hlk,HQ.out]
       exact val_int (by rw [IntWalk.i64_in _ (by omega)];simp only [Int.toNat_natCast];omega)
      case measure=>simp [intOf];omega
     ·go_wp2
      go_roundw
      case rel =>
       refine⟨j+1,by omega,by go_num,?_,hbj2⟩
       rw [actsSum_snoc _ _ _ hlt,sumOf_all _ _ _ (by omega)];go_num
      case measure=>simp [intOf];omega
   ·go_wp2
    go_ret
    refine⟨?_,hb2.trans (hbr.mono (by rw [HZ.out];omega))⟩
    exact ret_int (by rw [HE.out,actsSum_all _ _ _ (by omega)])
theorem specProgOk_calls (p:Prog)(A B:Option Addr)(ca cb:Nat)(w:World)(S:Nat→Prop)(hA:Row Kd.int w S A p.cells)(hB:Row (Kd.slice kAct) w S B p.bodies) :
  Calls Tryz.prog 66 #[.agg #[.slice A p.cells.length ca,.slice B p.bodies.length cb]] w fun e w'=>e=.returned (.bool (progOk p))∧Below w.heap.size w w':=by
 have hb1:∀ o,Below w.heap.size w (w.alloc o):=fun o=>(Below.refl _ _).alloc (Nat.le_refl _) _
 have hA1:=fun o=>hA.belowAll (hb1 o)
 have hB1:=fun o=>hB.belowAll (hb1 o)
 cases hf:formOk p
 ·have HF:=Lib.hid hf
  clear hf
  go_enter Tryz.func66,Tryz.ntmps66
  go_wp2_with (go_at_call 107;refine(l1Form_calls p _ _ _ _ _ S (hA1 _) (hB1 _)).mono ?_;rintro e w1 ⟨rfl,hb2⟩;rw [HF.out])
  go_ret
  exact⟨by simp [progOk,HF.out],(hb1 _).trans (hb2.mono (by simp))⟩
 ·have HF:=Lib.hid hf
  have hlen:=formOk_len hf
  clear hf
  have HT:=tree_small HF.out 4 0 (by omega)
  go_enter Tryz.func66,Tryz.ntmps66
  go_wp2_with (first | (go_at_call 107;refine(l1Form_calls p _ _ _ _ _ S (hA1 _) (hB1 _)).mono ?_;rintro e w1 ⟨rfl,hb2⟩;rw [HF.out];have hb3:=(hb1 _).trans (hb2.mono (by simp));have hc1:=hb2.cell (p:=⟨w.heap.size,0,none⟩) (by simp);have hc2:=hb2.cell (p:=⟨w.heap.size,1,none⟩) (by simp);simp [go_sem] at hc1 hc2) | (go_at_call 108;refine(l1Tree_calls p HF.out 4 (by omega) 0 (by omega) (by omega) _ _ _ _ _ S (hB.belowAll hb3)).mono ?_;rintro e w2 ⟨rfl,hb4⟩))
  go_ret
  refine⟨?_,hb3.trans (hb4.mono hb3.size)⟩
  simp [progOk,HF.out]
end Go.Proofs.YtjacjafmimgfcaaGreat
