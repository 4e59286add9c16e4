/- The reference does a change at once: all of it.; A change done at once by the reference; three noughts (E1's first part, for seats without l22One).; The reference's machine: a new task; its four rows are made in any order.; The laws' word on two rows of numbers (E3's part, for seats without l22One). -/
import Derived.Deep.RegionHeld3
import Derived.Test.YtjacjafmimgfcaaGreatWac
import Derived.Test.YtjacjafmimgfcaaGreatWad
import Derived.Test.YtjacjafmimgfcaaGreatWae
import Derived.Test.YtjacjafmimgfcaaGreatWap
import Derived.Test.YtjacjafmimgfcaaGreatWay
set_option maxHeartbeats 4000000
set_option maxRecDepth 100000
set_option linter.unusedVariables false
set_option linter.unusedSimpArgs false
namespace Go.Proofs.YtjacjafmimgfcaaGreat
open Go.RowKit
def ResCD (r:Option (List Int × List Int)) (B:Nat) (e:Ending) (w':World):Prop :=
 match r with
 | none=>∃ vc vr,e=.returned (.tuple #[vc,vr,.bool false])∧OwnI 3 w' B vc []∧OwnI 3 w' B vr []
 | some (c,r)=>∃ vc vr,e=.returned (.tuple #[vc,vr,.bool true])∧OwnI 3 w' B vc c∧OwnI 3 w' B vr r∧∀ k,vc.ownBlock=some k→vr.ownBlock≠some k
theorem specChangeDo_bad (cells regs:List Int)(deeds:List Deed)(A B D:Option Addr)(ca cb cd:Nat)(w:World)(S:Nat→Prop)(hA:Row Kd.int w S A cells)(hB:Row Kd.int w S B regs)(hD:Row kDeed w S D deeds)(hbad:deskOk cells regs deeds=false) :
  Calls Tryz.prog 37 #[.slice A cells.length ca,.slice B regs.length cb,.slice D deeds.length cd] w fun e w'=>ResCD none w.heap.size e w'∧Below w.heap.size w w':=by
 have hm:=hA.1
 cases h1:changeOk deeds cells.length
 ·have H1:=Lib.hid h1
  clear h1 hbad
  go_enter Tryz.func37,Tryz.ntmps37
  go_wp2_with (go_at_call 74;refine(specChangeOk_calls deeds _ _ _ _ S hD (by omega) (by omega)).mono ?_;rintro e w1 ⟨rfl,hb1⟩;rw [H1.out])
  go_ret3
  refine⟨⟨_,_,rfl,?_,?_⟩,(hb1.alloc hb1.size _).alloc (by have:=hb1.size;simp;omega) _⟩
  ·exact(ownI_empty _ _ _ hb1.size).al _
  ·exact ownI_empty2 _ _ _ _ hb1.size
 ·cases h2:numsOk cells
  ·have H1:=Lib.hid h1
   have H2:=Lib.hid h2
   clear h1 h2 hbad
   go_enter Tryz.func37,Tryz.ntmps37
   go_wp2_with (first | (go_at_call 74;refine(specChangeOk_calls deeds _ _ _ _ S hD (by omega) (by omega)).mono ?_;rintro e w1 ⟨rfl,hb1⟩;rw [H1.out]) | (go_at_call 75;refine(l2Nums_calls cells _ _ _ _ S (hA.belowAll hb1)).mono ?_;rintro e w' ⟨rfl,rfl⟩;rw [H2.out,Bool.false_and]))
   go_ret3
   refine⟨⟨_,_,rfl,?_,?_⟩,(hb1.alloc hb1.size _).alloc (by have:=hb1.size;simp;omega) _⟩
   ·exact(ownI_empty _ _ _ hb1.size).al _
   ·exact ownI_empty2 _ _ _ _ hb1.size
  ·have h3:(numsOk regs && ((regs.length:Int) == 3))=false:=by
    simp only [deskOk,h1,h2,Bool.true_and] at hbad
    rw [← hbad];congr 1;rw [Bool.eq_iff_iff];simp;omega
   have H1:=Lib.hid h1
   have H2:=Lib.hid h2
   have H3:=Lib.hid h3
   clear h1 h2 h3 hbad
   go_enter Tryz.func37,Tryz.ntmps37
   go_wp2_with (first | (go_at_call 74;refine(specChangeOk_calls deeds _ _ _ _ S hD (by omega) (by omega)).mono ?_;rintro e w1 ⟨rfl,hb1⟩;rw [H1.out]) | (go_at_call 75;with_reducible refine(l2Nums_calls regs 3 _ _ _ S (hB.belowAll hb1)).mono ?_;rintro e w' ⟨rfl,rfl⟩;rw [H3.out]) | (go_at_call 75;refine(l2Nums_calls cells _ _ _ _ S (hA.belowAll hb1)).mono ?_;rintro e w' ⟨rfl,rfl⟩;rw [H2.out,Bool.true_and,show ((cells.length:Int) == cells.length)=true from beq_self_eq_true _]))
   go_ret3
   refine⟨⟨_,_,rfl,?_,?_⟩,(hb1.alloc hb1.size _).alloc (by have:=hb1.size;simp;omega) _⟩
   ·exact(ownI_empty _ _ _ hb1.size).al _
   ·exact ownI_empty2 _ _ _ _ hb1.size
theorem specChangeDo_good (cells regs:List Int)(deeds:List Deed)(A B D:Option Addr)(ca cb cd:Nat)(w:World)(S:Nat→Prop)(hA:Row Kd.int w S A cells)(hB:Row Kd.int w S B regs)(hD:Row kDeed w S D deeds)(hok:deskOk cells regs deeds=true) :
  Calls Tryz.prog 37 #[.slice A cells.length ca,.slice B regs.length cb,.slice D deeds.length cd] w fun e w'=>ResCD (doDeeds (cells,regs) deeds) w.heap.size e w'∧Below w.heap.size w w':=by
 have hm:=hA.1
 have hdesk:=deskOk_desk hok
 have hok':=hok
 simp only [deskOk,Bool.and_eq_true,decide_eq_true_eq] at hok'
 obtain⟨⟨h1,h2⟩,h3,h4⟩:=hok'
 have H1:=Lib.hid h1
 have H2:=Lib.hid h2
 have H3:=Lib.hid h3
 have H4:=Lib.hid h4
 have HDK:=Lib.hid hdesk
 have hcl:=hdesk.2.2.2
 have hrl:regs.length≤3:=by omega
 have hdl:=hdesk.2.2.1
 clear h1 h2 h3 h4 hok hdesk
 go_enter Tryz.func37,Tryz.ntmps37
 go_wp2_with (first | (go_at_call 74;refine(specChangeOk_calls deeds _ _ _ _ S hD (by omega) (by omega)).mono ?_;rintro e w1 ⟨rfl,hb1⟩;rw [H1.out]) | (go_at_call 75;with_reducible refine(l2Nums_calls regs 3 _ _ _ S (hB.belowAll hb1)).mono ?_;rintro e w' ⟨rfl,rfl⟩;rw [H3.out,Bool.true_and,show ((regs.length:Int) == 3)=true from by have:=H4.out;simp;omega]) | (go_at_call 75;refine(l2Nums_calls cells _ _ _ _ S (hA.belowAll hb1)).mono ?_;rintro e w' ⟨rfl,rfl⟩;rw [H2.out,Bool.true_and,show ((cells.length:Int) == cells.length)=true from beq_self_eq_true _]) | (at_builtin;refine wpList_clone_kd (d:=Kd.int) rfl (.tmp 32) (.tmp 33) _ rfl Tryz.underlying22 _ 8 infoInt rfl (by decide) (by decide) rfl A ca rfl (hA.belowAll hb1) (by omega) ?_;intro vc w2 hoc hbc) | (at_builtin;refine wpList_clone_kd (d:=Kd.int) rfl (.tmp 35) (.tmp 36) _ rfl Tryz.underlying22 _ 8 infoInt rfl (by decide) (by decide) rfl B cb rfl ((hB.belowAll hb1).belowAll hbc) (by omega) ?_;intro vr w3 hor hbr3))
 have HC0:OwnI 3 w3 w.heap.size vc cells:=((OwnI.of hoc).lower hb1.size).belowAll hbr3
 have HR0:OwnI 3 w3 w.heap.size vr regs:=(OwnI.of hor).lower (by have:=hb1.size;have:=hbc.size;omega)
 have hdis:∀ k,vc.ownBlock=some k→vr.ownBlock≠some k:=by
  intro k h1 h2
  have:=(OwnI.of hoc).blk k h1
  have:=(OwnI.of hor).blk k h2
  omega
 have hB3:Below w.heap.size w w3:=below_then (below_then hb1 hb1.size hbc) (by have:=hb1.size;have:=hbc.size;omega) hbr3
 obtain⟨gr,cr,hvr,hgr1,hgr2⟩:=HR0.place (by have:=H4.out;omega)
 have hrl3:regs.length=3:=H4.out
 rw [hrl3] at hvr
 subst hvr
 obtain⟨Ac,cc,hvc,hcc,_⟩:=HC0.row
 have hgc:0<cells.length→∃ g,Ac=some ⟨g,0,none⟩∧g≠gr:=by
  intro h0
  obtain⟨g,c,h1,h2,h3⟩:=HC0.place h0
  rw [hvc] at h1
  injection h1 with h1
  refine⟨g,h1,fun e=>hdis g (by rw [hvc,h1];rfl) (by rw [e];rfl)⟩
 subst hvc
 have hm3:=hD.1
 have HDIS:=Lib.hid hdis
 clear hdis hoc hor hb1 hbc hbr3 hrl3
 go_loopw [11] (fun i wr=>∃ (k:Nat) (c r:List Int),k≤deeds.length∧i=.int .i64 k∧Hid (doDeeds (cells,regs) (deeds.take k)=some (c,r))∧OwnI 3 wr w.heap.size (.slice Ac cells.length cc) c∧OwnI 3 wr w.heap.size (.slice (some ⟨gr,0,none⟩) 3 cr) r∧Below w.heap.size w wr) (fun i _=>deeds.length-(intOf i).toNat)
 case atStart=>exact⟨0,cells,regs,Nat.zero_le _,rfl,by simp [Hid,doDeeds],HC0,HR0,hB3⟩
 case round =>
  obtain⟨k,c,r,hk,rfl,HA,HC,HR,hbr⟩:=hrel
  have hdk:Desk cells.length (c,r):=(HDK.out).1.deeds (by
   have:=(HDK.out).2.1
   rw [List.all_eq_true] at this ⊢
   exact fun x hx=>this x (List.mem_of_mem_take hx)) HA.out
  have hcl2:c.length=cells.length:=hdk.cl
  have hrl2:r.length=3:=hdk.rl
  by_cases hlt:k<deeds.length
  ·obtain⟨ad,rfl,hl,hc1,hc2,hc4,hi1,hi2,hi3⟩:=at_deed (hD.belowAll hbr) hlt
   have hdo:deedOk deeds[k] cells.length=true:=by
    have:=(HDK.out).2.1
    rw [List.all_eq_true] at this
    exact this _ (List.getElem_mem hlt)
   have hnext:∀ cr',doDeed (c,r) deeds[k]=some cr'→Hid (doDeeds (cells,regs) (deeds.take (k+1))=some (cr'.1,cr'.2)):=by
    intro cr' h
    unfold Hid
    rw [doDeeds_take _ _ _ hlt,HA.out];exact h
   have hnone:doDeed (c,r) deeds[k]=none→Hid (doDeeds (cells,regs) deeds=none):=by
    intro h
    unfold Hid
    refine doDeeds_none _ _ k hlt ?_
    rw [doDeeds_take _ _ _ hlt,HA.out];exact h
   have HN:=Lib.hid hnext
   have HNN:=Lib.hid hnone
   have HL:=Lib.hid hcl2
   have hnone':=HNN.out
   clear hnext hnone hcl2
   rcases deedOk_kinds hdo with ⟨hkd,ha,hb⟩ | ⟨hkd,ha,hb⟩ | ⟨hkd,ha,hb⟩ | ⟨hkd,ha,hb⟩ | ⟨hkd,ha,hb⟩
   ·-- kind 1
    have ha0:=ha.1
    have hb0:=hb.1
    obtain⟨x,hx⟩:∃ x:Nat,deeds[k].a=(x:Int):=⟨deeds[k].a.toNat,by omega⟩
    obtain⟨y,hy⟩:∃ y:Nat,deeds[k].b=(y:Int):=⟨deeds[k].b.toNat,by omega⟩
    rw [hkd] at hc1
    rw [hx] at hc2 ha
    rw [hy] at hc4 hb
    obtain⟨gc,rfl,hne⟩:=hgc (by omega)
    have hyl:y<c.length:=by rw [HL.out];omega
    rw [← hdk.cl] at HC
    rw [hdk.cl] at HC
    have H1:=Lib.hid hkd;have H2:=Lib.hid hx;have H3:=Lib.hid hy
    clear hkd hx hy
    go_wp2
    obtain⟨W2,HW⟩:∃ W2,W2=wr.alloc (Obj.cells #[.int .i64 1,.int .i64 (x:Nat),.int .i64 (y:Nat)] 124):=⟨_,rfl⟩
    have hbw:Below w.heap.size w W2:=by rw [HW];exact hbr.alloc hbr.size _
    have HC2:OwnI 3 W2 w.heap.size (.slice (some ⟨gc,0,none⟩) cells.length cc) c:=by rw [HW];exact HC.al _
    have HR2:OwnI 3 W2 w.heap.size (.slice (some ⟨gr,0,none⟩) 3 cr) r:=by rw [HW];exact HR.al _
    have d0:W2.cell? ⟨wr.heap.size,0,none⟩=some (.int .i64 1):=by rw [HW];simp [go_sem]
    have d1:W2.cell? ⟨wr.heap.size,1,none⟩=some (.int .i64 (x:Nat)):=by rw [HW];simp [go_sem]
    have d2:W2.cell? ⟨wr.heap.size,2,none⟩=some (.int .i64 (y:Nat)):=by rw [HW];simp [go_sem]
    have hc2':=HC2
    rw [← hdk.cl] at hc2'
    have hr2':=HR2
    rw [← hrl2] at hr2'
    have hxl:x<r.length:=by omega
    obtain⟨hcy,hfy⟩:=hc2'.cell hyl
    obtain⟨hrx,hfx⟩:=hr2'.cell hxl
    have hcI:=HC2.all y hyl
    rw [← HW]
    clear HW hc2' hr2'
    have x1:(x:Int)<3:=by omega
    have x2:(0:Int)≤x:=by omega
    have y1:(y:Int)<cells.length:=by omega
    have y2:(0:Int)≤y:=by omega
    have hdd:doDeed (c,r) deeds[k]=some (c,r.set x c[y]):=by simp [doDeed,H1.out,H2.out,H3.out,rdI,hyl]
    have HDD:=Lib.hid hdd
    have HL3:=Lib.hid hrl2
    clear hdd hrl2
    go_still_tail 9,(by kernel_rfl)
    go_wp2
    go_roundw
    case rel =>
     refine⟨k+1,c,r.set x c[y],by omega,by go_num,HN.out _ HDD.out,(HC2.drewN _).far (fun q hq=>?_) _,?_,(below_drewN' hbw _).setCell hgr1 _⟩
     ·simp [Value.ownBlock] at hq;subst hq;exact hne
     ·have hr3:=HR2.drewN 1
      rw [← HL3.out] at hr3 ⊢
      exact hr3.set_ hxl _ hcI
    case measure=>simp [intOf];omega
   ·-- kind 2
    have ha0:=ha.1
    have hb0:=hb.1
    obtain⟨x,hx⟩:∃ x:Nat,deeds[k].a=(x:Int):=⟨deeds[k].a.toNat,by omega⟩
    obtain⟨y,hy⟩:∃ y:Nat,deeds[k].b=(y:Int):=⟨deeds[k].b.toNat,by omega⟩
    rw [hkd] at hc1
    rw [hx] at hc2 ha
    rw [hy] at hc4 hb
    obtain⟨gc,rfl,hne⟩:=hgc (by omega)
    have hxl:x<c.length:=by rw [HL.out];omega
    have H1:=Lib.hid hkd;have H2:=Lib.hid hx;have H3:=Lib.hid hy
    clear hkd hx hy
    go_wp2
    obtain⟨W2,HW⟩:∃ W2,W2=wr.alloc (Obj.cells #[.int .i64 2,.int .i64 (x:Nat),.int .i64 (y:Nat)] 124):=⟨_,rfl⟩
    have hbw:Below w.heap.size w W2:=by rw [HW];exact hbr.alloc hbr.size _
    have HC2:OwnI 3 W2 w.heap.size (.slice (some ⟨gc,0,none⟩) cells.length cc) c:=by rw [HW];exact HC.al _
    have HR2:OwnI 3 W2 w.heap.size (.slice (some ⟨gr,0,none⟩) 3 cr) r:=by rw [HW];exact HR.al _
    have d0:W2.cell? ⟨wr.heap.size,0,none⟩=some (.int .i64 2):=by rw [HW];simp [go_sem]
    have d1:W2.cell? ⟨wr.heap.size,1,none⟩=some (.int .i64 (x:Nat)):=by rw [HW];simp [go_sem]
    have d2:W2.cell? ⟨wr.heap.size,2,none⟩=some (.int .i64 (y:Nat)):=by rw [HW];simp [go_sem]
    have hc2':=HC2
    rw [← hdk.cl] at hc2'
    have hr2':=HR2
    rw [← hrl2] at hr2'
    have hyl:y<r.length:=by omega
    obtain⟨hcy,hfy⟩:=hc2'.cell hxl
    obtain⟨hrx,hfx⟩:=hr2'.cell hyl
    have hcI:=HR2.all y hyl
    rw [← HW]
    clear HW hc2' hr2'
    have x1:(x:Int)<cells.length:=by omega
    have x2:(0:Int)≤x:=by omega
    have y1:(y:Int)<3:=by omega
    have y2:(0:Int)≤y:=by omega
    have hdd:doDeed (c,r) deeds[k]=some (c.set x r[y],r):=by simp [doDeed,H1.out,H2.out,H3.out,rdI,hyl]
    have HDD:=Lib.hid hdd
    clear hdd hrl2
    have hgc1:w.heap.size≤gc:=(HC2.blk gc rfl).1
    go_still_tail 9,(by kernel_rfl)
    go_wp2
    go_roundw
    case rel =>
     refine⟨k+1,c.set x r[y],r,by omega,by go_num,HN.out _ HDD.out,?_,(HR2.drewN _).far (fun q hq=>?_) _,(below_drewN' hbw _).setCell hgc1 _⟩
     ·have hr3:=HC2.drewN 1
      rw [← HL.out] at hr3 ⊢
      exact hr3.set_ hxl _ hcI
     ·simp [Value.ownBlock] at hq;subst hq;exact fun e=>hne e.symm
    case measure=>simp [intOf];omega
   ·-- kind 3
    have ha0:=ha.1
    have hb0:=hb.1
    obtain⟨x,hx⟩:∃ x:Nat,deeds[k].a=(x:Int):=⟨deeds[k].a.toNat,by omega⟩
    obtain⟨y,hy⟩:∃ y:Nat,deeds[k].b=(y:Int):=⟨deeds[k].b.toNat,by omega⟩
    rw [hkd] at hc1
    rw [hx] at hc2 ha
    rw [hy] at hc4 hb
    have H1:=Lib.hid hkd;have H2:=Lib.hid hx;have H3:=Lib.hid hy
    have hrn:=hdk.r
    have HL3:=Lib.hid hrl2
    have HRN:=Lib.hid hrn
    clear hkd hx hy hrl2 hrn
    go_wp2_with (go_at_call 76;refine(l2Reg_calls 3 x y r _ w.heap.size _ HL3.out (HR.al _) HRN.out (by left;simp [inR]<;>omega)).mono ?_;rintro e w4 ⟨rfl,r',hd',hr',hg'⟩)
    go_roundw
    case rel =>
     have hdd:doDeed (c,r) deeds[k]=some (c,r'):=by
      have e:deeds[k]=⟨3,x,y⟩:=by
       have h1:=H1.out;have h2:=H2.out;have h3:=H3.out
       cases hdq:deeds[k] with | mk a b c=>rw [hdq] at h1 h2 h3;simp at h1 h2 h3;rw [h1,h2,h3]
      rw [e];exact doDeed_reg (by simp) hd'
     refine⟨k+1,c,r',by omega,by go_num,HN.out _ hdd,(HC.al _).grown hg' (fun q hq hq2=>HDIS.out q hq (by rw [← hq2])),hr',(hbr.alloc hbr.size _).grown hg' (Nat.le_trans hbr.size (by simp)) (fun q hq=>by simp [Value.ownBlock] at hq;omega)⟩
    case measure=>simp [intOf];omega
   ·-- kind 4
    have ha0:=ha.1
    have hb0:=hb.1
    obtain⟨x,hx⟩:∃ x:Nat,deeds[k].a=(x:Int):=⟨deeds[k].a.toNat,by omega⟩
    obtain⟨y,hy⟩:∃ y:Nat,deeds[k].b=(y:Int):=⟨deeds[k].b.toNat,by omega⟩
    rw [hkd] at hc1
    rw [hx] at hc2 ha
    rw [hy] at hc4 hb
    have H1:=Lib.hid hkd;have H2:=Lib.hid hx;have H3:=Lib.hid hy
    have hrn:=hdk.r
    have HL3:=Lib.hid hrl2
    have HRN:=Lib.hid hrn
    clear hkd hx hy hrl2 hrn
    go_wp2_with (go_at_call 76;refine(l2Reg_calls 4 x y r _ w.heap.size _ HL3.out (HR.al _) HRN.out (by right;simp [inR]<;>omega)).mono ?_;rintro e w4 ⟨rfl,r',hd',hr',hg'⟩)
    go_roundw
    case rel =>
     have hdd:doDeed (c,r) deeds[k]=some (c,r'):=by
      have e:deeds[k]=⟨4,x,y⟩:=by
       have h1:=H1.out;have h2:=H2.out;have h3:=H3.out
       cases hdq:deeds[k] with | mk a b c=>rw [hdq] at h1 h2 h3;simp at h1 h2 h3;rw [h1,h2,h3]
      rw [e];exact doDeed_reg (by simp) hd'
     refine⟨k+1,c,r',by omega,by go_num,HN.out _ hdd,(HC.al _).grown hg' (fun q hq hq2=>HDIS.out q hq (by rw [← hq2])),hr',(hbr.alloc hbr.size _).grown hg' (Nat.le_trans hbr.size (by simp)) (fun q hq=>by simp [Value.ownBlock] at hq;omega)⟩
    case measure=>simp [intOf];omega
   ·have ha0:=ha.1
    obtain⟨x,hx⟩:∃ x:Nat,deeds[k].a=(x:Int):=⟨deeds[k].a.toNat,by omega⟩
    rw [hkd] at hc1
    rw [hx] at hc2 ha
    have hxl:x<r.length:=by omega
    have hr2':=HR
    rw [← hrl2] at hr2'
    obtain⟨hrx,hfx⟩:=hr2'.cell hxl
    have hwx:∀ o,(wr.alloc o).cell? ⟨gr,x,none⟩=some (.int .i64 r[x]):=fun o=>by rw [World.cell?_alloc_lt _ _ _ (HR.blk gr rfl).2];exact hrx
    by_cases h0:r[x]=0
    ·have hdd:doDeed (c,r) deeds[k]=none:=by simp [doDeed,hkd,hx,rdI,hxl,h0]
     have HDD:=hnone' hdd
     rw [h0] at hwx
     clear hkd hx hrl2 hr2' hrx h0 hdd
     go_wp2
     go_ret3
     refine⟨?_,((hbr.alloc hbr.size _).alloc (by have:=hbr.size;simp;omega) _).alloc (by have:=hbr.size;simp;omega) _⟩
     rw [HDD.out]
     refine⟨_,_,rfl,?_,?_⟩
     ·have h:=(ownI_empty 3 (wr.alloc (Obj.cells #[.int .i64 5,.int .i64 (x:Nat),.int .i64 0] 124)) w.heap.size (Nat.le_trans hbr.size (by simp))).al (.cells #[] 3)
      simpa using h
     ·have h:=ownI_empty2 3 (wr.alloc (Obj.cells #[.int .i64 5,.int .i64 (x:Nat),.int .i64 0] 124)) w.heap.size (.cells #[] 3) (Nat.le_trans hbr.size (by simp))
      simpa using h
    ·have hdd:doDeed (c,r) deeds[k]=some (c,r):=by simp [doDeed,hkd,hx,rdI,hxl,h0]
     have HDD:=Lib.hid hdd
     have hb0:(r[x] == 0)=false:=by simp [h0]
     clear hkd hx hrl2 hr2' hrx hdd h0
     go_wp2
     go_roundw
     case rel=>exact⟨k+1,c,r,by omega,by go_num,HN.out _ HDD.out,HC.al _,HR.al _,hbr.alloc hbr.size _⟩
     case measure=>simp [intOf];omega
  ·go_wp2
   go_ret3
   refine⟨?_,hbr⟩
   have:=HA.out
   rw [List.take_of_length_le (by omega)] at this
   rw [this]
   exact⟨_,_,rfl,HC,HR,HDIS.out⟩
end Go.Proofs.YtjacjafmimgfcaaGreat
namespace Go.Proofs.YtjacjafmimgfcaaGreat
open Go.RowKit
theorem specChangeDo_calls (cells regs:List Int)(deeds:List Deed)(A B D:Option Addr)(ca cb cd:Nat)(w:World)(S S1 S2:Nat→Prop)(hA:Row Kd.int w S1 A cells)(hB:Row Kd.int w S2 B regs)(hD:Row kDeed w S D deeds) :
  Calls Tryz.prog 37 #[.slice A cells.length ca,.slice B regs.length cb,.slice D deeds.length cd] w fun e w'=>ResCD (changeDo cells regs deeds) w.heap.size e w'∧Below w.heap.size w w':=by
 have h1:=hA.mono (S':=fun _=>True) (fun _ _=>trivial)
 have h2:=hB.mono (S':=fun _=>True) (fun _ _=>trivial)
 have h3:=hD.mono (S':=fun _=>True) (fun _ _=>trivial)
 unfold changeDo
 cases h:deskOk cells regs deeds
 ·exact specChangeDo_bad cells regs deeds A B D ca cb cd w _ h1 h2 h3 h
 ·exact specChangeDo_good cells regs deeds A B D ca cb cd w _ h1 h2 h3 h
theorem mk3s (w:World):(Instr.makeSlice 22 (.int .i64 3) (.int .i64 3)).run Tryz.prog w=.ok (.slice (some ⟨w.heap.size,0,none⟩) 3 3) (w.alloc (.cells #[.int .i64 0,.int .i64 0,.int .i64 0] 3)):=by kernel_rfl
theorem ownI_zeros' (w:World)(base:Nat)(hb:base≤w.heap.size):OwnI 3 (w.alloc (.cells #[.int .i64 0,.int .i64 0,.int .i64 0] 3)) base (.slice (some ⟨w.heap.size,0,none⟩) 3 3) [0,0,0]:=by
 refine own_intro [[.int .i64 0],[.int .i64 0],[.int .i64 0]] ⟨rfl,.inr ⟨w.heap.size,3,_,rfl,hb,heap_alloc_new w _,Nat.le_refl _,by simp [maxLen],rfl,rfl⟩⟩ rfl (fun k hk=>hk) (fun j x hj=>?_)
 have hj3:j<3:=(List.getElem?_eq_some_iff.1 hj).1
 have:j=0∨j=1∨j=2:=by omega
 rcases this with rfl | rfl | rfl<;>(simp at hj;subst hj;exact⟨_,rfl,rfl,by decide,by decide⟩)
end Go.Proofs.YtjacjafmimgfcaaGreat
namespace Go.Proofs.YtjacjafmimgfcaaGreat
open Go.RowKit
attribute [local go_sem ↓] Go.wp_at_zero Go.wp_at_succ
theorem own_zero3 {w:World}{B b:Nat}(h:w.heap[b]?=some (.cells #[.int .i64 0,.int .i64 0,.int .i64 0] 3 (0,0)))(hb:B≤b):OwnF Kd.int 3 w B (.slice (some ⟨b,0,none⟩) 3 3) [0,0,0]:=by
 refine OwnF.of plain_int (S:=fun _=>True) (own_intro [[.int .i64 0],[.int .i64 0],[.int .i64 0]] ⟨rfl,.inr ⟨b,3,_,rfl,hb,h,Nat.le_refl _,by simp [maxLen],rfl,rfl⟩⟩ rfl (fun k hk=>trivial) (fun j x hj=>?_))
 have hj3:j<3:=(List.getElem?_eq_some_iff.1 hj).1
 have:j=0∨j=1∨j=2:=by omega
 rcases this with rfl | rfl | rfl<;>(simp at hj;subst hj;exact⟨_,rfl,rfl,by decide,by decide⟩)
theorem own_nil0 {α:Type}{d:Kd α}(hp:d.plain){e:Nat}{w:World}{B b:Nat}(h:w.heap[b]?=some (.cells #[] e (0,0)))(hb:B≤b):OwnF d e w B (.slice (some ⟨b,0,none⟩) 0 0) [] :=
 OwnF.of hp (S:=fun _=>True) (own_intro [] ⟨by simp,.inr ⟨b,0,#[],rfl,hb,h,Nat.le_refl _,by simp [maxLen],by simp,by simp⟩⟩ rfl (fun k hk=>trivial) (fun j x hj=>by simp at hj))
structure NewT (body up:Int) (B:Nat) (v:Value) (w':World) (r o d u:Value):Prop where
 ev:v=.agg #[.int .i64 body,.int .i64 0,.int .i64 up,r,.int .i64 0,.int .i64 0,.int .i64 0,.int .i64 0,o,d,u,.int .i64 0,.int .i64 0]
 pr:OwnF Kd.int 3 w' B r [0,0,0]
 po:OwnF Kd.int 3 w' B o [0,0,0]
 pd:OwnF kPut 127 w' B d []
 pu:OwnF kPut 127 w' B u []
 ro:∀ k,r.ownBlock=some k→o.ownBlock≠some k
 rd:∀ k,r.ownBlock=some k→d.ownBlock≠some k
 ru:∀ k,r.ownBlock=some k→u.ownBlock≠some k
 od:∀ k,o.ownBlock=some k→d.ownBlock≠some k
 ou:∀ k,o.ownBlock=some k→u.ownBlock≠some k
 du:∀ k,d.ownBlock=some k→u.ownBlock≠some k
theorem newT_of (body up:Int)(B b1 b2 b3 b4:Nat)(w':World)(h1:w'.heap[b1]?=some (.cells #[.int .i64 0,.int .i64 0,.int .i64 0] 3 (0,0)))(h2:w'.heap[b2]?=some (.cells #[.int .i64 0,.int .i64 0,.int .i64 0] 3 (0,0)))(h3:w'.heap[b3]?=some (.cells #[] 127 (0,0)))(h4:w'.heap[b4]?=some (.cells #[] 127 (0,0)))
  (hB:B≤b1∧B≤b2∧B≤b3∧B≤b4) (hn:b1≠b2∧b1≠b3∧b1≠b4∧b2≠b3∧b2≠b4∧b3≠b4) :
  NewT body up B (.agg #[.int .i64 body,.int .i64 0,.int .i64 up,.slice (some ⟨b1,0,none⟩) 3 3,.int .i64 0,.int .i64 0,.int .i64 0,.int .i64 0,.slice (some ⟨b2,0,none⟩) 3 3,.slice (some ⟨b3,0,none⟩) 0 0,.slice (some ⟨b4,0,none⟩) 0 0,.int .i64 0,.int .i64 0]) w' (.slice (some ⟨b1,0,none⟩) 3 3) (.slice (some ⟨b2,0,none⟩) 3 3) (.slice (some ⟨b3,0,none⟩) 0 0) (.slice (some ⟨b4,0,none⟩) 0 0):=by
 have f:∀ {x y n m c e:Nat},x≠y→∀ k,(Value.slice (some ⟨x,0,none⟩) n c).ownBlock=some k→(Value.slice (some ⟨y,0,none⟩) m e).ownBlock≠some k:=fun hne k e1 e2=>by
  simp [Value.ownBlock] at e1 e2
  exact hne (by omega)
 exact⟨rfl,own_zero3 h1 hB.1,own_zero3 h2 hB.2.1,own_nil0 plain_put h3 hB.2.2.1,own_nil0 plain_put h4 hB.2.2.2,f hn.1,f hn.2.1,f hn.2.2.1,f hn.2.2.2.1,f hn.2.2.2.2.1,f hn.2.2.2.2.2⟩
def Z3:Obj:=.cells #[.int .i64 0,.int .i64 0,.int .i64 0] 3 (0,0)
def Z0:Obj:=.cells #[] 127 (0,0)
def J13 (w0:World) (kt:Nat) (ot:Obj) (body up:Int) (f:Nat) (l:Array Bool) (a:Go.Act) (w:World):Prop :=
 ∃ (b2 b3 b4 b5:Bool) (k2 k3 k4 k5:Nat) (x2 x3 x4 x5:Value),l=#[true,true,b2,b3,b4,b5,false,false]∧a=⟨#[.int .i64 body,.int .i64 up,undef,undef,.pointer (some ⟨kt,0,none⟩),.int .i64 body,.int .i64 up,x2,x3,x4,x5,undef],[]⟩ ∧
  f=(bif b2 then 0 else 1)+(bif b3 then 0 else 1)+(bif b4 then 0 else 1)+(bif b5 then 0 else 1) ∧
  (b2=true→x2=.slice (some ⟨k2,0,none⟩) 3 3)∧(b3=true→x3=.slice (some ⟨k3,0,none⟩) 3 3)∧(b4=true→x4=.slice (some ⟨k4,0,none⟩) 0 0)∧(b5=true→x5=.slice (some ⟨k5,0,none⟩) 0 0) ∧
  Made w0 w b2 k2 Z3∧Made w0 w b3 k3 Z3∧Made w0 w b4 k4 Z0∧Made w0 w b5 k5 Z0 ∧
  Apart2 b2 k2 b3 k3∧Apart2 b2 k2 b4 k4∧Apart2 b2 k2 b5 k5∧Apart2 b3 k3 b4 k4∧Apart2 b3 k3 b5 k5∧Apart2 b4 k4 b5 k5∧Made w0 w true kt ot∧Apart2 b2 k2 true kt∧Apart2 b3 k3 true kt∧Apart2 b4 k4 true kt∧Apart2 b5 k5 true kt∧Below w0.heap.size w0 w
theorem below_set' {B:Nat}{w w1:World}(h:Below B w w1)(o:Nat)(u:Value):Below B w (w1.setCell ⟨B,o,none⟩ u):=h.setCell (p:=⟨B,o,none⟩) (Nat.le_refl _) u
theorem ne_nil {l:List Nat}(h:l.isEmpty=false):l≠[]:=fun e=>by rw [e] at h;cases h
theorem l11Task_calls (body up:Int)(w:World) :
  Calls Tryz.prog 141 #[.int .i64 body,.int .i64 up] w fun e w'=>∃ v r o d u,e=.returned v∧NewT body up w.heap.size v w' r o d u∧Below w.heap.size w w':=by
 have hmk:=mk3s
 go_enter Tryz.func141,Tryz.ntmps141
 go_wp2_with fail
 refine wp_region_noPanic ?_
 refine wp_region_held_drew (S:=fun _=>True) (by kernel_rfl) trivial (fun _=>?_)
 refine wpAnyH_take (i:=0) (v:=_) rfl (by kernel_rfl) (by kernel_rfl) (by kernel_rfl) (fun _ _ _ h=>h) (Or.inl ⟨by rfl,by (intro w hSw;go_simp<;>with_reducible rfl)⟩) trivial ?_
 (try simp only [Act.put,q4,q5,q6])
 refine wpAnyH_take (i:=1) (v:=_) rfl (by kernel_rfl) (by kernel_rfl) (by kernel_rfl) (fun _ _ _ h=>h) (Or.inl ⟨by rfl,by (intro w hSw;go_simp<;>with_reducible rfl)⟩) trivial ?_
 (try simp only [Act.put,q4,q5,q6])
 have hJ0:∃ ot,ot=Obj.cells #[.int .i64 0,.int .i64 0,.int .i64 0,.slice none 0 0,.int .i64 0,.int .i64 0,.int .i64 0,.int .i64 0,.slice none 0 0,.slice none 0 0,.slice none 0 0,.int .i64 0,.int .i64 0] 118 (0,0):=⟨_,rfl⟩
 obtain⟨ot,hot⟩:=hJ0
 refine anyH_part (g:=2) (J13 w w.heap.size ot body up) (fun _ _ _ _ _=>trivial) (fun l a w1 hJ=>?_) (fun f l a w1 hJ=>?_) 4 _ _ _ ?_
 ·obtain⟨b2,b3,b4,b5,k2,k3,k4,k5,x2,x3,x4,x5,rfl,rfl,hf,e2,e3,e4,e5,m2,m3,m4,m5,p23,p24,p25,p34,p35,p45,mt,q2,q3,q4,q5,hB⟩:=hJ
  have hb:b2=true∧b3=true∧b4=true∧b5=true:=by
   clear e2 e3 e4 e5 m2 m3 m4 m5 p23 p24 p25 p34 p35 p45 q2 q3 q4 q5 mt hB
   rcases b2<;>rcases b3<;>rcases b4<;>rcases b5<;>simp at hf ⊢
  obtain⟨rfl,rfl,rfl,rfl⟩:=hb
  obtain rfl:=e2 rfl
  obtain rfl:=e3 rfl
  obtain rfl:=e4 rfl
  obtain rfl:=e5 rfl
  clear e2 e3 e4 e5 hf
  refine wpAnyH_take (i:=6) (v:=_) rfl (by kernel_rfl) (by kernel_rfl) (by kernel_rfl) (fun _ _ _ h=>h) (Or.inl ⟨by rfl,by (intro w hSw;go_simp<;>with_reducible rfl)⟩) trivial ?_
  (try simp only [Act.put,q4,q5,q6])
  obtain⟨ht1,ht2⟩:=mt rfl
  rw [hot] at ht2
  obtain⟨c0,c1,c2,c3,c4,c5,c6,c7,c8,c9,c10,c11,c12⟩:=block13 ht2
  have htf:=fun i=>frozen_of_row _ _ i _ _ ht2
  refine wpAnyH_all (rs:=[7]) (by kernel_rfl) (by simp) (fun i hi=>?_)
  obtain rfl:i=7:=by simpa using hi
  refine wpOp_step rfl (fun K' hK=>?_)
  refine step_hold (a:=⟨_,_⟩) ?_
  clear ht2 mt
  go_simp
  refine hK _ _ ⟨trivial,wpAnyH_done (by kernel_rfl) (NoPanic.normal ?_) _⟩
  clear hK K' hi
  have hT:=Lib.hid (And.intro m2 (And.intro m3 (And.intro m4 m5)))
  have hP:=Lib.hid (And.intro p23 (And.intro p24 (And.intro p25 (And.intro p34 (And.intro p35 p45)))))
  have hQ:=Lib.hid (And.intro q2 (And.intro q3 (And.intro q4 q5)))
  have hBB:=Lib.hid hB
  clear m2 m3 m4 m5 p23 p24 p25 p34 p35 p45 q2 q3 q4 q5 hB
  go_wp2
  refine bodyPost_ret (v:=.agg #[.int .i64 body,.int .i64 0,.int .i64 up,.slice (some ⟨k2,0,none⟩) 3 3,.int .i64 0,.int .i64 0,.int .i64 0,.int .i64 0,.slice (some ⟨k3,0,none⟩) 3 3,.slice (some ⟨k4,0,none⟩) 0 0,.slice (some ⟨k5,0,none⟩) 0 0,.int .i64 0,.int .i64 0]) (by simp [results,Tryz.results141,go_sem, *]) rfl ⟨_,_,_,_,_,rfl,newT_of body up w.heap.size k2 k3 k4 k5 _ ?_ ?_ ?_ ?_ ?_ ?_,?_⟩
  ·have hne:k2≠w.heap.size:=hQ.out.1 rfl rfl
   iterate 13 refine(Below.heap_setCell _ _ _ _ hne).trans ?_
   exact(hT.out.1 rfl).2
  ·have hne:k3≠w.heap.size:=hQ.out.2.1 rfl rfl
   iterate 13 refine(Below.heap_setCell _ _ _ _ hne).trans ?_
   exact(hT.out.2.1 rfl).2
  ·have hne:k4≠w.heap.size:=hQ.out.2.2.1 rfl rfl
   iterate 13 refine(Below.heap_setCell _ _ _ _ hne).trans ?_
   exact(hT.out.2.2.1 rfl).2
  ·have hne:k5≠w.heap.size:=hQ.out.2.2.2 rfl rfl
   iterate 13 refine(Below.heap_setCell _ _ _ _ hne).trans ?_
   exact(hT.out.2.2.2 rfl).2
  ·exact⟨(hT.out.1 rfl).1,(hT.out.2.1 rfl).1,(hT.out.2.2.1 rfl).1,(hT.out.2.2.2 rfl).1⟩
  ·exact⟨hP.out.1 rfl rfl,hP.out.2.1 rfl rfl,hP.out.2.2.1 rfl rfl,hP.out.2.2.2.1 rfl rfl,hP.out.2.2.2.2.1 rfl rfl,hP.out.2.2.2.2.2 rfl rfl⟩
  ·iterate 13 with_reducible refine below_set' ?_ _ _
   exact hBB.out
 ·obtain⟨b2,b3,b4,b5,k2,k3,k4,k5,x2,x3,x4,x5,rfl,rfl,hf,e2,e3,e4,e5,m2,m3,m4,m5,p23,p24,p25,p34,p35,p45,mt,q2,q3,q4,q5,hB⟩:=hJ
  refine⟨?_,fun i hi=>?_⟩
  ·clear e2 e3 e4 e5 m2 m3 m4 m5 p23 p24 p25 p34 p35 p45 q2 q3 q4 q5 mt hB
   rcases b2<;>rcases b3<;>rcases b4<;>rcases b5<;>first | (exfalso;simp at hf;done) | exact ne_nil (by kernel_rfl)
  ·obtain⟨h1,h2⟩:=ready_at hi
   have hi8:i<8:=Classical.byContradiction fun h=>by
    rw [Array.getD_eq_getD_getElem?,Array.getElem?_eq_none (by simp;omega)] at h1
    cases h1
   obtain rfl | rfl | rfl | rfl | rfl | rfl | rfl | rfl:i=0∨i=1∨i=2∨i=3∨i=4∨i=5∨i=6∨i=7:=by omega
   ·cases h1
   ·cases h1
   ·have h1:b2=false:=h1
    subst h1
    clear h2 hi
    refine wpOp_step rfl (fun K' hK=>?_)
    refine step_hold (a:=⟨_,_⟩) ?_
    go_simp
    exact hK _ _ ⟨true,b3,b4,b5,w1.heap.size,k3,k4,k5,_,x3,x4,x5,rfl,rfl,by simp at hf ⊢;omega,fun _=>rfl,e3,e4,e5,Made.new hB _,m3.alloc _,m4.alloc _,m5.alloc _,Apart2.new m3,Apart2.new m4,Apart2.new m5,p34,p35,p45,mt.alloc _,Apart2.new mt,q3,q4,q5,hB.alloc hB.size _⟩
   ·have h1:b3=false:=h1
    subst h1
    clear h2 hi
    refine wpOp_step rfl (fun K' hK=>?_)
    refine step_hold (a:=⟨_,_⟩) ?_
    go_simp
    exact hK _ _ ⟨b2,true,b4,b5,k2,w1.heap.size,k4,k5,x2,_,x4,x5,rfl,rfl,by simp at hf ⊢;omega,e2,fun _=>rfl,e4,e5,m2.alloc _,Made.new hB _,m4.alloc _,m5.alloc _,(Apart2.new m2).symm,p24,p25,Apart2.new m4,Apart2.new m5,p45,mt.alloc _,q2,Apart2.new mt,q4,q5,hB.alloc hB.size _⟩
   ·have h1:b4=false:=h1
    subst h1
    clear h2 hi
    refine wpOp_step rfl (fun K' hK=>?_)
    refine step_hold (a:=⟨_,_⟩) ?_
    go_simp
    exact hK _ _ ⟨b2,b3,true,b5,k2,k3,w1.heap.size,k5,x2,x3,_,x5,rfl,rfl,by simp at hf ⊢;omega,e2,e3,fun _=>rfl,e5,m2.alloc _,m3.alloc _,Made.new hB _,m5.alloc _,p23,(Apart2.new m2).symm,p25,(Apart2.new m3).symm,p35,Apart2.new m5,mt.alloc _,q2,q3,Apart2.new mt,q5,hB.alloc hB.size _⟩
   ·have h1:b5=false:=h1
    subst h1
    clear h2 hi
    refine wpOp_step rfl (fun K' hK=>?_)
    refine step_hold (a:=⟨_,_⟩) ?_
    go_simp
    exact hK _ _ ⟨b2,b3,b4,true,k2,k3,k4,w1.heap.size,x2,x3,x4,_,rfl,rfl,by simp at hf ⊢;omega,e2,e3,e4,fun _=>rfl,m2.alloc _,m3.alloc _,m4.alloc _,Made.new hB _,p23,p24,(Apart2.new m2).symm,p34,(Apart2.new m3).symm,(Apart2.new m4).symm,mt.alloc _,q2,q3,q4,Apart2.new mt,hB.alloc hB.size _⟩
   ·exfalso
    have h3:=h2 _ rfl
    have g2:=h3 ⟨2,.data⟩ (by simp) rfl
    have g3:=h3 ⟨3,.data⟩ (by simp) rfl
    have g4:=h3 ⟨4,.data⟩ (by simp) rfl
    have g5:=h3 ⟨5,.data⟩ (by simp) rfl
    simp at g2 g3 g4 g5
    subst g2;subst g3;subst g4;subst g5
    simp at hf
   ·exfalso
    have h3:=h2 _ rfl ⟨6,.data⟩ (by simp) rfl
    simp at h3
 ·refine⟨false,false,false,false,0,0,0,0,_,_,_,_,rfl,rfl,rfl,(fun e=>by cases e),(fun e=>by cases e),(fun e=>by cases e),(fun e=>by cases e),Made.none,Made.none,Made.none,Made.none,Apart2.none,Apart2.none,Apart2.none,Apart2.none,Apart2.none,Apart2.none,?_,Apart2.none,Apart2.none,Apart2.none,Apart2.none,?_⟩
  ·intro _
   rw [hot]
   exact⟨Nat.le_refl _,heap_alloc_new _ _⟩
  ·exact((alB w _)).drew
end Go.Proofs.YtjacjafmimgfcaaGreat
namespace Go.Proofs.YtjacjafmimgfcaaGreat
open Go.RowKit
theorem lqInts_calls (xs ys:List Int)(A B:Option Addr)(ca cb:Nat)(w:World)(S S2:Nat→Prop)(hA:Row Kd.int w S A xs)(hB:Row Kd.int w S2 B ys) :
  Calls Tryz.prog 28 #[.slice A xs.length ca,.slice B ys.length cb] w fun e w'=>e=.returned (.bool (decide (xs=ys)))∧Below w.heap.size w w':=by
 have hm:=hA.1
 have hm2:=hB.1
 by_cases hl:xs.length=ys.length
 rotate_left
 ·have hne:((xs.length:Int) != ys.length)=true:=by simp;omega
  have hd:decide (xs=ys)=false:=by simp;intro e;exact hl (by rw [e])
  rw [hd]
  clear hl hd
  go_enter Tryz.func28,Tryz.ntmps28
  go_wp2
  go_ret
  exact⟨rfl,Below.refl _ _⟩
 ·have hne:((xs.length:Int) != ys.length)=false:=by simp;omega
  have HL:=Lib.hid hl
  clear hl
  go_enter Tryz.func28,Tryz.ntmps28
  go_wp2
  go_loopw [5] (fun i wr=>∃ k:Nat,k≤xs.length∧i=.int .i64 k∧Hid (xs.take k=ys.take k)∧Below w.heap.size w wr) (fun i _=>xs.length-(intOf i).toNat)
  case atStart=>exact⟨0,Nat.zero_le _,rfl,rfl,Below.refl _ _⟩
  case round =>
   obtain⟨k,hk,rfl,HA,hbr⟩:=hrel
   by_cases hlt:k<xs.length
   ·have hlt2:k<ys.length:=by rw [← HL.out];exact hlt
    obtain⟨ad,rfl,hl1,hc1,hi1⟩:=at_int (hA.belowAll hbr) hlt
    obtain⟨ad2,rfl,hl2,hc2,hi2⟩:=at_int (hB.belowAll hbr) hlt2
    have x1:(k:Int)<xs.length:=by omega
    have x2:(k:Int)<ys.length:=by omega
    have x3:(0:Int)≤k:=by omega
    by_cases he:xs[k]=ys[k]
    ·have hb:(xs[k] != ys[k])=false:=by simp [he]
     have HEQ:=Lib.hid he
     clear he
     go_wp2
     go_quiet (fail)
     go_wp2
     go_roundw
     case rel=>exact⟨k+1,by omega,by go_num,by unfold Hid;rw [List.take_succ_eq_append_getElem hlt,List.take_succ_eq_append_getElem hlt2,HA.out,HEQ.out],below_drewN' hbr _⟩
     case measure=>simp [intOf];omega
    ·have hb:(xs[k] != ys[k])=true:=by simp [he]
     have hd:decide (xs=ys)=false:=by simp;intro e;subst e;exact he rfl
     have HDD:=Lib.hid hd
     clear he hd
     go_wp2
     go_quiet (fail)
     go_wp2
     go_ret
     exact⟨ret_bool HDD.out.symm,below_drewN' hbr _⟩
   ·have hd:decide (xs=ys)=true:=by
     have:=HA.out
     rw [List.take_of_length_le (by omega),List.take_of_length_le (by rw [← HL.out];omega)] at this
     simp [this]
    have HDD:=Lib.hid hd
    clear hd
    go_wp2
    go_ret
    exact⟨ret_bool HDD.out.symm,hbr⟩
end Go.Proofs.YtjacjafmimgfcaaGreat
