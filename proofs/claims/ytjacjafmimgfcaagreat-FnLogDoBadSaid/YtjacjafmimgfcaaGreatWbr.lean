/- The program does a change at once: where all is in form.; A change done by the program (D4's first part, for seats without oneBody).; What both programs' LogDo need: rows at literal addresses, registers of one's own, what one change does.; The reference: a change anew; which change stands ahead. -/
import Derived.Test.YtjacjafmimgfcaaGreatWap
import Derived.Test.YtjacjafmimgfcaaGreatWar
import Derived.Test.YtjacjafmimgfcaaGreatWbk
import Derived.Test.YtjacjafmimgfcaaGreatWbq
set_option maxHeartbeats 4000000
set_option maxRecDepth 100000
set_option linter.unusedVariables false
set_option linter.unusedSimpArgs false
namespace Go.Proofs.YtjacjafmimgfcaaGreat
open Go.RowKit
theorem implChangeDo_good (cells regs:List Int)(deeds:List Deed)(A B D:Option Addr)(ca cb cd:Nat)(w:World)(S:Nat→Prop)(hA:Row Kd.int w S A cells)(hB:Row Kd.int w S B regs)(hD:Row kDeed w S D deeds)(hok:deskOk cells regs deeds=true) :
  Calls Tryz.prog 50 #[.slice A cells.length ca,.slice B regs.length cb,.slice D deeds.length cd] w fun e w'=>ResCDi (doDeeds (cells,regs) deeds) w.heap.size e w'∧Below w.heap.size w w':=by
 have hm:=hA.1
 have hm3:=hD.1
 have hdesk:=deskOk_desk hok
 have hok':=hok
 simp only [deskOk,Bool.and_eq_true,decide_eq_true_eq] at hok'
 obtain⟨⟨h1,h2⟩,h3,h4⟩:=hok'
 have H1:=Lib.hid h1
 have H2:=Lib.hid h2
 have H3:=Lib.hid h3
 have H4:=Lib.hid h4
 have h5:((regs.length:Int) != 3)=false:=by simp [h4]
 have HDK:=Lib.hid hdesk
 have hcl:=hdesk.2.2.2
 have hrl:regs.length≤3:=by omega
 have hdl:=hdesk.2.2.1
 clear h1 h2 h3 h4 hok hdesk
 go_enter Tryz.func50,Tryz.ntmps50
 go_wp2_with (first | (go_at_call 90;refine(changeOk_calls deeds _ _ _ _ S hD (by omega)).mono ?_;rintro e w1 ⟨rfl,hb1⟩;rw [H1.out]) | (go_at_call 91;with_reducible refine(allNums_calls cells _ _ _ S (hA.belowAll hb1)).mono ?_;rintro e w' ⟨rfl,rfl⟩;rw [H2.out]) | (go_at_call 91;refine(allNums_calls regs _ _ _ S (hB.belowAll hb1)).mono ?_;rintro e w' ⟨rfl,rfl⟩;rw [H3.out]) | (go_at_call 47;with_reducible refine(cloneInt_calls cells _ _ _ S (hA.belowAll hb1) (by omega)).mono ?_;rintro e w2 ⟨vc,rfl,hoc,hbc⟩;obtain⟨Ac,cc,rfl,hcc,hrowc⟩:=OwnI.row hoc;clear hrowc) | (go_at_call 47;refine(cloneInt_calls regs _ _ _ S ((hB.belowAll hb1).belowAll hbc) (by omega)).mono ?_;rintro e w3 ⟨vr,rfl,hor,hbr3⟩;obtain⟨gr,cr,rfl,hgr1,hgr2⟩:=OwnI.place hor (by have:=H4.out;omega)) | (go_at_call 92;refine(does_calls _).mono ?_;rintro e w4 ⟨rfl,hb4⟩;unfold doesV fnV))
 have hwd:∀ o,DeskAt (w3.alloc (Obj.cells #[.slice Ac cells.length cc,.slice (some ⟨gr,0,none⟩) regs.length cr] o)) w.heap.size w3.heap.size (.slice Ac cells.length cc) (.slice (some ⟨gr,0,none⟩) regs.length cr) cells regs:=by
  intro o
  have hc3:OwnI 3 w3 w.heap.size (.slice Ac cells.length cc) cells:=(hoc.lower hb1.size).belowAll hbr3
  have hr3:OwnI 3 w3 w.heap.size (.slice (some ⟨gr,0,none⟩) regs.length cr) regs:=hor.lower (by have:=hb1.size;have:=hbc.size;omega)
  refine⟨by simp [go_sem],by simp [go_sem],hc3.al _,hr3.al _,fun k hk=>⟨by have:=(hc3.blk k hk).2;omega,fun e=>?_⟩,fun k hk=>by have:=(hr3.blk k hk).2;omega,by simp⟩
  have:=(hoc.blk k hk).2
  have:=(hor.blk k e).1
  omega
 have hd4:=(hwd 140).keep (Keep.of_belowAll (fun _=>False) hb4) (fun h=>h) (fun _ _ h=>h) (fun _ _ h=>h)
 have hB4:Below w.heap.size w w4:=below_then (below_then (below_then hb1 hb1.size hbc) (by have:=hb1.size;have:=hbc.size;omega) hbr3 |>.alloc (by have:=hb1.size;have:=hbc.size;have:=hbr3.size;omega) _) (by have:=hb1.size;have:=hbc.size;have:=hbr3.size;simp;omega) hb4
 obtain⟨W5,HW5⟩:∃ W5,W5=w4.alloc (Obj.cells #[fnV 130,fnV 131,fnV 132,fnV 133,fnV 134,fnV 135] 142):=⟨_,rfl⟩
 have hk5:Keep (fun _=>False) w4 W5:=by rw [HW5];exact(Keep.refl _ _).alloc _
 have hd5:=hd4.keep hk5 (fun h=>h) (fun _ _ h=>h) (fun _ _ h=>h)
 have har5:∀ (i:Nat) (f:Value),[fnV 130,fnV 131,fnV 132,fnV 133,fnV 134,fnV 135][i]?=some f→W5.cell? ⟨w4.heap.size,i,none⟩=some f:=by
  intro i f h
  rw [HW5];simp [go_sem];exact h
 have hz5:w4.heap.size<W5.heap.size:=by rw [HW5];simp
 have hB5:Below w.heap.size w W5:=by rw [HW5];exact hB4.alloc hB4.size _
 unfold fnV at HW5
 rw [← HW5]
 have HAR:=Lib.hid har5
 have HZ5:=Lib.hid hz5
 have HD5:=Lib.hid hd5
 have hcz:∀ k,Value.ownBlock (.slice Ac cells.length cc)=some k→w.heap.size≤k:=fun k hk=>(hd5.C.blk k hk).1
 have hrz:w.heap.size≤gr:=(hd5.R.blk gr rfl).1
 have hne4:(∀ k,Value.ownBlock (.slice Ac cells.length cc)=some k→k≠w4.heap.size)∧gr≠w4.heap.size:=⟨fun k hk=>by have:=(hd4.C.blk k hk).2;omega,by have:=(hd4.R.blk gr rfl).2;omega⟩
 have HCZ:=Lib.hid hcz
 have HNE:=Lib.hid hne4
 clear HW5 hwd hd4 har5 hz5 hcz hne4 hk5
 go_loopw [41] (fun i wr=>∃ (k:Nat) (c r:List Int),k≤deeds.length∧i=.int .i64 k∧Hid (doDeeds (cells,regs) (deeds.take k)=some (c,r))∧DeskAt wr w.heap.size w3.heap.size (.slice Ac cells.length cc) (.slice (some ⟨gr,0,none⟩) regs.length cr) c r∧Keep (fun k=>Value.ownBlock (.slice Ac cells.length cc)=some k∨Value.ownBlock (.slice (some ⟨gr,0,none⟩) regs.length cr)=some k) W5 wr) (fun i _=>deeds.length-(intOf i).toNat)
 case atStart=>exact⟨0,cells,regs,Nat.zero_le _,rfl,by simp [Hid,doDeeds],hd5,Keep.refl _ _⟩
 case round =>
  obtain⟨k,c,r,hk,rfl,HA,hda,hkr⟩:=hrel
  have hdk:Desk cells.length (c,r):=(HDK.out).1.deeds (by
   have:=(HDK.out).2.1
   rw [List.all_eq_true] at this ⊢
   exact fun x hx=>this x (List.mem_of_mem_take hx)) HA.out
  have hke:∀ w7,Keep (fun k=>Value.ownBlock (.slice Ac cells.length cc)=some k∨Value.ownBlock (.slice (some ⟨gr,0,none⟩) regs.length cr)=some k) wr w7→Keep (fun k=>Value.ownBlock (.slice Ac cells.length cc)=some k∨Value.ownBlock (.slice (some ⟨gr,0,none⟩) regs.length cr)=some k) W5 w7:=fun w7 h=>hkr.trans h
  have hfin:∀ w7,Keep (fun k=>Value.ownBlock (.slice Ac cells.length cc)=some k∨Value.ownBlock (.slice (some ⟨gr,0,none⟩) regs.length cr)=some k) wr w7→Below w.heap.size w w7:=fun w7 h =>
   hB5.trans ((hke w7 h).below (fun q hq e=>by
    rcases e with e | e
    ·have:=HCZ.out q e;omega
    ·simp [Value.ownBlock] at e;omega) hB5.size)
  by_cases hlt:k<deeds.length
  ·have hlar:w4.heap.size<wr.heap.size:=Nat.lt_of_lt_of_le HZ5.out hkr.size
   have har:∀ (i:Nat) (f:Value),[fnV 130,fnV 131,fnV 132,fnV 133,fnV 134,fnV 135][i]?=some f→wr.cell? ⟨w4.heap.size,i,none⟩=some f:=fun i f h =>
    (hkr.cell (p:=⟨w4.heap.size,i,none⟩) HZ5.out (fun e=>by
     rcases e with e | e
     ·exact HNE.out.1 _ e rfl
     ·simp [Value.ownBlock] at e;exact HNE.out.2 e)).trans (HAR.out i f h)
   have hDr:Row kDeed wr S D deeds:=hD.belowAll (by have:=hfin wr (Keep.refl _ _);exact⟨this.os,this.tape,this.output,this.size,this.block⟩)
   obtain⟨ad,rfl,hl,hc1,hc2,hc4,hi1,hi2,hi3⟩:=at_deed hDr hlt
   have hdo:deedOk deeds[k] cells.length=true:=by
    have:=(HDK.out).2.1
    rw [List.all_eq_true] at this
    exact this _ (List.getElem_mem hlt)
   clear hDr
   rcases deedOk_kinds hdo with ⟨hkd,ha,hb⟩ | ⟨hkd,ha,hb⟩ | ⟨hkd,ha,hb⟩ | ⟨hkd,ha,hb⟩ | ⟨hkd,ha,hb⟩
   ·obtain⟨x,hx⟩:∃ x:Nat,deeds[k].a=(x:Int):=⟨deeds[k].a.toNat,by omega⟩
    obtain⟨y,hy⟩:∃ y:Nat,deeds[k].b=(y:Int):=⟨deeds[k].b.toNat,by omega⟩
    rw [hkd] at hc1
    rw [hx] at hc2 ha
    rw [hy] at hc4 hb
    have he:deeds[k]=⟨1,x,y⟩:=by
     cases hdq:deeds[k] with | mk a b c=>rw [hdq] at hkd hx hy;simp at hkd hx hy;rw [hkd,hx,hy]
    have HE:=Lib.hid he
    clear hkd hx hy he
    go_wp2
    obtain⟨W6,HW⟩:∃ W6,W6=wr.alloc (Obj.cells #[.int .i64 1,.int .i64 (x:Nat),.int .i64 (y:Nat)] 124):=⟨_,rfl⟩
    have hk6:Keep (fun _=>False) wr W6:=by rw [HW];exact(Keep.refl _ _).alloc _
    have d0:W6.cell? ⟨wr.heap.size,0,none⟩=some (.int .i64 1):=by rw [HW];simp [go_sem]
    have d1:W6.cell? ⟨wr.heap.size,1,none⟩=some (.int .i64 (x:Nat)):=by rw [HW];simp [go_sem]
    have d2:W6.cell? ⟨wr.heap.size,2,none⟩=some (.int .i64 (y:Nat)):=by rw [HW];simp [go_sem]
    have dar:=(hk6.cell (p:=⟨w4.heap.size,1,none⟩) hlar (fun h=>h)).trans (har 1 _ rfl)
    have hdw0:=hda.keep hk6 (fun h=>h) (fun _ _ h=>h) (fun _ _ h=>h)
    have hdw:=hdw0.keep (T:=fun _=>False) ((Keep.refl _ W6).drewN 1) (fun h=>h) (fun _ _ h=>h) (fun _ _ h=>h)
    rw [← HW]
    clear HW
    unfold fnV at dar
    go_still_tail 5,(by kernel_rfl)
    cases hdd:doDeed (c,r) ⟨1,x,y⟩
    ·have HDD:=Lib.hid hdd
     clear hdd
     go_wp2_with (go_at_call 131;refine(does2 hdw hdk x y (by omega) (by omega) hcl).mono ?_;rw [HDD.out];rintro e w7 ⟨hk7,rfl,hd7⟩)
     go_ret3
     refine⟨?_,hfin _ ((hk6.drewN 1).mono (fun _ h=>h.elim) |>.trans hk7)⟩
     have:doDeeds (cells,regs) deeds=none:=by
      refine doDeeds_none _ _ k hlt ?_
      rw [doDeeds_take _ _ _ hlt,HA.out,HE.out];exact HDD.out
     rw [this]
     exact rfl
    ·rename_i cr'
     have HDD:=Lib.hid hdd
     clear hdd
     go_wp2_with (go_at_call 131;refine(does2 hdw hdk x y (by omega) (by omega) hcl).mono ?_;rw [HDD.out];rintro e w7 ⟨hk7,rfl,hd7⟩)
     go_roundw
     case rel=>exact⟨k+1,cr'.1,cr'.2,by omega,by go_num,by unfold Hid;rw [doDeeds_take _ _ _ hlt,HA.out,HE.out];exact HDD.out,hd7,hke _ ((hk6.drewN 1).mono (fun _ h=>h.elim) |>.trans hk7)⟩
     case measure=>simp [intOf];omega
   ·obtain⟨x,hx⟩:∃ x:Nat,deeds[k].a=(x:Int):=⟨deeds[k].a.toNat,by omega⟩
    obtain⟨y,hy⟩:∃ y:Nat,deeds[k].b=(y:Int):=⟨deeds[k].b.toNat,by omega⟩
    rw [hkd] at hc1
    rw [hx] at hc2 ha
    rw [hy] at hc4 hb
    have he:deeds[k]=⟨2,x,y⟩:=by
     cases hdq:deeds[k] with | mk a b c=>rw [hdq] at hkd hx hy;simp at hkd hx hy;rw [hkd,hx,hy]
    have HE:=Lib.hid he
    clear hkd hx hy he
    go_wp2
    obtain⟨W6,HW⟩:∃ W6,W6=wr.alloc (Obj.cells #[.int .i64 2,.int .i64 (x:Nat),.int .i64 (y:Nat)] 124):=⟨_,rfl⟩
    have hk6:Keep (fun _=>False) wr W6:=by rw [HW];exact(Keep.refl _ _).alloc _
    have d0:W6.cell? ⟨wr.heap.size,0,none⟩=some (.int .i64 2):=by rw [HW];simp [go_sem]
    have d1:W6.cell? ⟨wr.heap.size,1,none⟩=some (.int .i64 (x:Nat)):=by rw [HW];simp [go_sem]
    have d2:W6.cell? ⟨wr.heap.size,2,none⟩=some (.int .i64 (y:Nat)):=by rw [HW];simp [go_sem]
    have dar:=(hk6.cell (p:=⟨w4.heap.size,2,none⟩) hlar (fun h=>h)).trans (har 2 _ rfl)
    have hdw0:=hda.keep hk6 (fun h=>h) (fun _ _ h=>h) (fun _ _ h=>h)
    have hdw:=hdw0.keep (T:=fun _=>False) ((Keep.refl _ W6).drewN 1) (fun h=>h) (fun _ _ h=>h) (fun _ _ h=>h)
    rw [← HW]
    clear HW
    unfold fnV at dar
    go_still_tail 5,(by kernel_rfl)
    cases hdd:doDeed (c,r) ⟨2,x,y⟩
    ·have HDD:=Lib.hid hdd
     clear hdd
     go_wp2_with (go_at_call 132;refine(does3 hdw hdk x y (by omega) (by omega) hcl).mono ?_;rw [HDD.out];rintro e w7 ⟨hk7,rfl,hd7⟩)
     go_ret3
     refine⟨?_,hfin _ ((hk6.drewN 1).mono (fun _ h=>h.elim) |>.trans hk7)⟩
     have:doDeeds (cells,regs) deeds=none:=by
      refine doDeeds_none _ _ k hlt ?_
      rw [doDeeds_take _ _ _ hlt,HA.out,HE.out];exact HDD.out
     rw [this]
     exact rfl
    ·rename_i cr'
     have HDD:=Lib.hid hdd
     clear hdd
     go_wp2_with (go_at_call 132;refine(does3 hdw hdk x y (by omega) (by omega) hcl).mono ?_;rw [HDD.out];rintro e w7 ⟨hk7,rfl,hd7⟩)
     go_roundw
     case rel=>exact⟨k+1,cr'.1,cr'.2,by omega,by go_num,by unfold Hid;rw [doDeeds_take _ _ _ hlt,HA.out,HE.out];exact HDD.out,hd7,hke _ ((hk6.drewN 1).mono (fun _ h=>h.elim) |>.trans hk7)⟩
     case measure=>simp [intOf];omega
   ·obtain⟨x,hx⟩:∃ x:Nat,deeds[k].a=(x:Int):=⟨deeds[k].a.toNat,by omega⟩
    obtain⟨y,hy⟩:∃ y:Nat,deeds[k].b=(y:Int):=⟨deeds[k].b.toNat,by omega⟩
    rw [hkd] at hc1
    rw [hx] at hc2 ha
    rw [hy] at hc4 hb
    have he:deeds[k]=⟨3,x,y⟩:=by
     cases hdq:deeds[k] with | mk a b c=>rw [hdq] at hkd hx hy;simp at hkd hx hy;rw [hkd,hx,hy]
    have HE:=Lib.hid he
    clear hkd hx hy he
    go_wp2
    obtain⟨W6,HW⟩:∃ W6,W6=wr.alloc (Obj.cells #[.int .i64 3,.int .i64 (x:Nat),.int .i64 (y:Nat)] 124):=⟨_,rfl⟩
    have hk6:Keep (fun _=>False) wr W6:=by rw [HW];exact(Keep.refl _ _).alloc _
    have d0:W6.cell? ⟨wr.heap.size,0,none⟩=some (.int .i64 3):=by rw [HW];simp [go_sem]
    have d1:W6.cell? ⟨wr.heap.size,1,none⟩=some (.int .i64 (x:Nat)):=by rw [HW];simp [go_sem]
    have d2:W6.cell? ⟨wr.heap.size,2,none⟩=some (.int .i64 (y:Nat)):=by rw [HW];simp [go_sem]
    have dar:=(hk6.cell (p:=⟨w4.heap.size,3,none⟩) hlar (fun h=>h)).trans (har 3 _ rfl)
    have hdw0:=hda.keep hk6 (fun h=>h) (fun _ _ h=>h) (fun _ _ h=>h)
    have hdw:=hdw0.keep (T:=fun _=>False) ((Keep.refl _ W6).drewN 1) (fun h=>h) (fun _ _ h=>h) (fun _ _ h=>h)
    rw [← HW]
    clear HW
    unfold fnV at dar
    go_still_tail 5,(by kernel_rfl)
    cases hdd:doDeed (c,r) ⟨3,x,y⟩
    ·have HDD:=Lib.hid hdd
     clear hdd
     go_wp2_with (go_at_call 133;refine(does4 hdw hdk x y (by omega) (by omega) hcl).mono ?_;rw [HDD.out];rintro e w7 ⟨hk7,rfl,hd7⟩)
     go_ret3
     refine⟨?_,hfin _ ((hk6.drewN 1).mono (fun _ h=>h.elim) |>.trans hk7)⟩
     have:doDeeds (cells,regs) deeds=none:=by
      refine doDeeds_none _ _ k hlt ?_
      rw [doDeeds_take _ _ _ hlt,HA.out,HE.out];exact HDD.out
     rw [this]
     exact rfl
    ·rename_i cr'
     have HDD:=Lib.hid hdd
     clear hdd
     go_wp2_with (go_at_call 133;refine(does4 hdw hdk x y (by omega) (by omega) hcl).mono ?_;rw [HDD.out];rintro e w7 ⟨hk7,rfl,hd7⟩)
     go_roundw
     case rel=>exact⟨k+1,cr'.1,cr'.2,by omega,by go_num,by unfold Hid;rw [doDeeds_take _ _ _ hlt,HA.out,HE.out];exact HDD.out,hd7,hke _ ((hk6.drewN 1).mono (fun _ h=>h.elim) |>.trans hk7)⟩
     case measure=>simp [intOf];omega
   ·obtain⟨x,hx⟩:∃ x:Nat,deeds[k].a=(x:Int):=⟨deeds[k].a.toNat,by omega⟩
    obtain⟨y,hy⟩:∃ y:Nat,deeds[k].b=(y:Int):=⟨deeds[k].b.toNat,by omega⟩
    rw [hkd] at hc1
    rw [hx] at hc2 ha
    rw [hy] at hc4 hb
    have he:deeds[k]=⟨4,x,y⟩:=by
     cases hdq:deeds[k] with | mk a b c=>rw [hdq] at hkd hx hy;simp at hkd hx hy;rw [hkd,hx,hy]
    have HE:=Lib.hid he
    clear hkd hx hy he
    go_wp2
    obtain⟨W6,HW⟩:∃ W6,W6=wr.alloc (Obj.cells #[.int .i64 4,.int .i64 (x:Nat),.int .i64 (y:Nat)] 124):=⟨_,rfl⟩
    have hk6:Keep (fun _=>False) wr W6:=by rw [HW];exact(Keep.refl _ _).alloc _
    have d0:W6.cell? ⟨wr.heap.size,0,none⟩=some (.int .i64 4):=by rw [HW];simp [go_sem]
    have d1:W6.cell? ⟨wr.heap.size,1,none⟩=some (.int .i64 (x:Nat)):=by rw [HW];simp [go_sem]
    have d2:W6.cell? ⟨wr.heap.size,2,none⟩=some (.int .i64 (y:Nat)):=by rw [HW];simp [go_sem]
    have dar:=(hk6.cell (p:=⟨w4.heap.size,4,none⟩) hlar (fun h=>h)).trans (har 4 _ rfl)
    have hdw0:=hda.keep hk6 (fun h=>h) (fun _ _ h=>h) (fun _ _ h=>h)
    have hdw:=hdw0.keep (T:=fun _=>False) ((Keep.refl _ W6).drewN 1) (fun h=>h) (fun _ _ h=>h) (fun _ _ h=>h)
    rw [← HW]
    clear HW
    unfold fnV at dar
    go_still_tail 5,(by kernel_rfl)
    cases hdd:doDeed (c,r) ⟨4,x,y⟩
    ·have HDD:=Lib.hid hdd
     clear hdd
     go_wp2_with (go_at_call 134;refine(does5 hdw hdk x y (by omega) (by omega) hcl).mono ?_;rw [HDD.out];rintro e w7 ⟨hk7,rfl,hd7⟩)
     go_ret3
     refine⟨?_,hfin _ ((hk6.drewN 1).mono (fun _ h=>h.elim) |>.trans hk7)⟩
     have:doDeeds (cells,regs) deeds=none:=by
      refine doDeeds_none _ _ k hlt ?_
      rw [doDeeds_take _ _ _ hlt,HA.out,HE.out];exact HDD.out
     rw [this]
     exact rfl
    ·rename_i cr'
     have HDD:=Lib.hid hdd
     clear hdd
     go_wp2_with (go_at_call 134;refine(does5 hdw hdk x y (by omega) (by omega) hcl).mono ?_;rw [HDD.out];rintro e w7 ⟨hk7,rfl,hd7⟩)
     go_roundw
     case rel=>exact⟨k+1,cr'.1,cr'.2,by omega,by go_num,by unfold Hid;rw [doDeeds_take _ _ _ hlt,HA.out,HE.out];exact HDD.out,hd7,hke _ ((hk6.drewN 1).mono (fun _ h=>h.elim) |>.trans hk7)⟩
     case measure=>simp [intOf];omega
   ·obtain⟨x,hx⟩:∃ x:Nat,deeds[k].a=(x:Int):=⟨deeds[k].a.toNat,by omega⟩
    have hy:=hb
    rw [hkd] at hc1
    rw [hx] at hc2 ha
    rw [hy] at hc4
    have he:deeds[k]=⟨5,x,0⟩:=by
     cases hdq:deeds[k] with | mk a b c=>rw [hdq] at hkd hx hy;simp at hkd hx hy;rw [hkd,hx,hy]
    have HE:=Lib.hid he
    clear hkd hx hy he hb
    go_wp2
    obtain⟨W6,HW⟩:∃ W6,W6=wr.alloc (Obj.cells #[.int .i64 5,.int .i64 (x:Nat),.int .i64 0] 124):=⟨_,rfl⟩
    have hk6:Keep (fun _=>False) wr W6:=by rw [HW];exact(Keep.refl _ _).alloc _
    have d0:W6.cell? ⟨wr.heap.size,0,none⟩=some (.int .i64 5):=by rw [HW];simp [go_sem]
    have d1:W6.cell? ⟨wr.heap.size,1,none⟩=some (.int .i64 (x:Nat)):=by rw [HW];simp [go_sem]
    have d2:W6.cell? ⟨wr.heap.size,2,none⟩=some (.int .i64 0):=by rw [HW];simp [go_sem]
    have dar:=(hk6.cell (p:=⟨w4.heap.size,5,none⟩) hlar (fun h=>h)).trans (har 5 _ rfl)
    have hdw0:=hda.keep hk6 (fun h=>h) (fun _ _ h=>h) (fun _ _ h=>h)
    have hdw:=hdw0.keep (T:=fun _=>False) ((Keep.refl _ W6).drewN 1) (fun h=>h) (fun _ _ h=>h) (fun _ _ h=>h)
    rw [← HW]
    clear HW
    unfold fnV at dar
    go_still_tail 5,(by kernel_rfl)
    cases hdd:doDeed (c,r) ⟨5,x,0⟩
    ·have HDD:=Lib.hid hdd
     clear hdd
     go_wp2_with (go_at_call 135;refine(does6 hdw hdk x (by omega) hcl).mono ?_;rw [HDD.out];rintro e w7 ⟨hk7,rfl,hd7⟩)
     go_ret3
     refine⟨?_,hfin _ ((hk6.drewN 1).mono (fun _ h=>h.elim) |>.trans hk7)⟩
     have:doDeeds (cells,regs) deeds=none:=by
      refine doDeeds_none _ _ k hlt ?_
      rw [doDeeds_take _ _ _ hlt,HA.out,HE.out];exact HDD.out
     rw [this]
     exact rfl
    ·rename_i cr'
     have HDD:=Lib.hid hdd
     clear hdd
     go_wp2_with (go_at_call 135;refine(does6 hdw hdk x (by omega) hcl).mono ?_;rw [HDD.out];rintro e w7 ⟨hk7,rfl,hd7⟩)
     go_roundw
     case rel=>exact⟨k+1,cr'.1,cr'.2,by omega,by go_num,by unfold Hid;rw [doDeeds_take _ _ _ hlt,HA.out,HE.out];exact HDD.out,hd7,hke _ ((hk6.drewN 1).mono (fun _ h=>h.elim) |>.trans hk7)⟩
     case measure=>simp [intOf];omega
  ·have e0:=hda.c0
   have e1:=hda.c1
   go_wp2
   go_quiet (fail)
   go_wp2
   go_ret3
   refine⟨?_,(hfin wr (Keep.refl _ _)).trans (below_drewN' (Below.refl _ _) _)⟩
   have:=HA.out
   rw [List.take_of_length_le (by omega)] at this
   rw [this]
   exact⟨_,_,rfl,hda.C.drewN _,hda.R.drewN _,fun q hq=>(hda.gc q hq).2⟩
end Go.Proofs.YtjacjafmimgfcaaGreat
namespace Go.Proofs.YtjacjafmimgfcaaGreat
open Go.RowKit
theorem implChangeDo_calls (cells regs:List Int)(deeds:List Deed)(A B D:Option Addr)(ca cb cd:Nat)(w:World)(S S1 S2:Nat→Prop)(hA:Row Kd.int w S1 A cells)(hB:Row Kd.int w S2 B regs)(hD:Row kDeed w S D deeds) :
  Calls Tryz.prog 50 #[.slice A cells.length ca,.slice B regs.length cb,.slice D deeds.length cd] w fun e w'=>ResCDi (changeDo cells regs deeds) w.heap.size e w'∧Below w.heap.size w w':=by
 have h1:=hA.mono (S':=fun _=>True) (fun _ _=>trivial)
 have h2:=hB.mono (S':=fun _=>True) (fun _ _=>trivial)
 have h3:=hD.mono (S':=fun _=>True) (fun _ _=>trivial)
 unfold changeDo
 cases h:deskOk cells regs deeds
 ·exact implChangeDo_bad cells regs deeds A B D ca cb cd w _ h1 h2 h3 h
 ·exact implChangeDo_good cells regs deeds A B D ca cb cd w _ h1 h2 h3 h
end Go.Proofs.YtjacjafmimgfcaaGreat
namespace Go.Proofs.YtjacjafmimgfcaaGreat
open Go.RowKit
theorem infoIntS:(Tryz.prog.info? 22).map (fun i=>(i.zero,i.size,i.bytes))=some (some (.slice none 0 0),1,24):=by kernel_rfl
theorem litSpot {w:World}{a:Addr}{u:Value}(h:w.cell? a=some u):a.spot=none:=by
 unfold World.cell? at h
 split at h
 ·cases hs:a.spot with
  | none=>rfl
  | some x=>simp [hs] at h
 ·cases h
theorem litAdd (b o n:Nat):(⟨b,o,none⟩:Addr).add n=⟨b,o+n,none⟩:=by
 unfold Addr.add
 split
 ·rename_i h;simp_all
 ·rfl
theorem litEntry {w:World}{S:Nat→Prop}{A:Option Addr}{xs:List Entry}{j:Nat}(h:Row kEntry w S A xs)(hj:j<xs.length):∃ b o Ad Au cd cu,A=some ⟨b,o,none⟩∧b<w.heap.size∧S b∧EntryRows w S xs[j] Ad Au cd cu ∧
  EntryAt w ⟨b,o+j*6,none⟩ xs[j] (.slice Ad xs[j].reads.length cd) (.slice Au xs[j].puts.length cu):=by
 obtain⟨ad,e,hs,hl,_⟩:=h.2 (by rintro rfl;simp at hj)
 obtain⟨ad2,Ad,Au,cd,cu,e2,_,hr,hat⟩:=at_entry h hj
 rw [e] at e2
 injection e2 with e2
 subst e2
 obtain⟨ad3,c,e3,_,_,hk,hc⟩:=h.get (j:=0) (by omega)
 rw [e] at e3
 injection e3 with e3
 subst e3
 have hl0:c.length=6:=Kd.len _ hk
 have h0:=hc 0 (c[0]'(by omega)) (List.getElem?_eq_getElem (by omega))
 rw [Nat.zero_mul,Nat.add_zero] at h0
 have e0:ad.add 0=ad:=by simp [Addr.add]
 rw [e0] at h0
 have hsp:=litSpot h0
 obtain⟨b,o,s⟩:=ad
 simp only at hsp
 subst hsp
 rw [litAdd] at hat
 exact⟨b,o,Ad,Au,cd,cu,e,hl,hs,hr,hat⟩
abbrev Regs (w:World) (B:Nat) (v:Value) (rs:List (List Int)):Prop:=Own (Kd.slice Kd.int) 22 w B (fun k=>B≤k) v rs
theorem Regs.at {w:World}{B g cap:Nat}{rs:List (List Int)}{n:Nat}(h:Regs w B (.slice (some ⟨g,0,none⟩) n cap) rs)(hn:n=rs.length){j:Nat}(hj:j<rs.length):∃ A c,w.cell? ⟨g,j,none⟩=some (.slice A rs[j].length c)∧w.frozen? ⟨g,j,none⟩=false∧rs[j].length≤c∧Row Kd.int w (fun k=>B≤k∧k≠g) A rs[j]:=by
 subst hn
 obtain⟨c,⟨A,c',rfl,hl,hr⟩,hc,hf⟩:=Own.cellAt h hj
 have h0:=hc 0 _ rfl
 exact⟨A,c',by simpa [Kd.slice] using h0,hf j,hl,hr⟩
theorem Regs.set {w:World}{B g cap:Nat}{rs:List (List Int)}{n:Nat}(h:Regs w B (.slice (some ⟨g,0,none⟩) n cap) rs)(hn:n=rs.length){j:Nat}(hj:j<rs.length){vr:Value}{r:List Int}(hr:OwnI 3 w B vr r)(hv:vr.ownBlock≠some g):Regs (w.setCell ⟨g,j,none⟩ vr) B (.slice (some ⟨g,0,none⟩) n cap) (rs.set j r):=by
 subst hn
 obtain⟨A,c,rfl,hc,hrow⟩:=hr.row
 have h1:=Own.setAt h hj (i:=0) (show 0<1 by decide) (.slice A r.length c) r (fun c0 hc0=>by
  obtain⟨A0,c1,rfl,_,_⟩:=hc0
  exact⟨A,c,rfl,hc,hrow.mono fun k hk=>⟨(hr.blk k hk).1,fun e=>hv (by rw [← e];exact hk)⟩⟩)
 have e:j*(Kd.slice Kd.int).sz+0=j:=by show j*1+0=j;omega
 rw [e] at h1
 exact h1
theorem regs_getD {rs:List (List Int)}{j:Nat}(hj:j<rs.length):rs.getD j []=rs[j]:=getD_at _ _ _ hj
theorem resDeeds_open {r:Option (List Deed)}{w:World}{S:Nat→Prop}{e:Ending}(h:ResDeeds r w S e):∃ v ok,e=.returned (.tuple #[v,.bool ok])∧(ok=false→r=none)∧(ok=true→∃ ds D c,r=some ds∧v=.slice D ds.length c∧Row kDeed w S D ds):=by
 cases r with
 | none=>obtain⟨v,rfl⟩:=h;exact⟨v,false,rfl,fun _=>rfl,fun h=>by cases h⟩
 | some ds=>obtain⟨D,c,rfl,hr⟩:=h;exact⟨_,true,rfl,fun h=>(by cases h),fun _=>⟨ds,D,c,rfl,rfl,hr⟩⟩
theorem below_two_drew {w w':World}(h:Below w.heap.size w w'):Below w.drew.heap.size w.drew w':=⟨h.os,h.tape,h.output,h.size,h.block⟩
theorem rowOneAt {α:Type}{d:Kd α}{e:Nat}{w:World}{S:Nat→Prop}{x:α}{cs:List Value}(b:Nat)(h:d.K w S x cs)(hb:b=w.heap.size):Row d (w.alloc (.cells cs.toArray e)) (fun k=>S k∨k=b) (some ⟨b,0,none⟩) [x]:=by
 subst hb
 exact Row.one_ h
theorem belowTwo {B B':Nat}{w w1 w2:World}(h:Below B w w1)(hB:B≤B')(hw:B≤w.heap.size)(h':Below B' w1 w2):Below B w w2 :=
 ⟨h'.os.trans h.os,h'.tape.trans h.tape,h'.output.trans h.output,Nat.le_trans h.size h'.size,fun k hk=>(h'.block k (by omega)).trans (h.block k hk)⟩
end Go.Proofs.YtjacjafmimgfcaaGreat
namespace Go.Proofs.YtjacjafmimgfcaaGreat
open Go.RowKit
attribute [local go_sem ↓] Go.wp_at_zero Go.wp_at_succ
theorem l13Entry_calls (x:Entry)(D U:Option Addr)(cd cu:Nat)(w:World)(S:Nat→Prop)(hr:EntryRows w S x D U cd cu)(hSS:∀ k,S k→k<w.heap.size)(h1:x.reads.length≤1000000)(h2:x.puts.length≤1000000) :
  Calls Tryz.prog 106 #[.agg #[.int .i64 x.task,.int .i64 x.act,.int .i64 x.whn,.slice D x.reads.length cd,.slice U x.puts.length cu,.int .i64 x.frm]] w fun e w'=>∃ D' U' cd' cu',e=.returned (.agg #[.int .i64 x.task,.int .i64 x.act,.int .i64 x.whn,.slice D' x.reads.length cd',.slice U' x.puts.length cu',.int .i64 x.frm])∧EntryRows w' (fun k=>w.heap.size≤k∧k<w'.heap.size) x D' U' cd' cu'∧Below w.heap.size w w':=by
 obtain⟨W,HW⟩:∃ W,W=(w.alloc (.cells #[.int .i64 x.task,.int .i64 x.act,.int .i64 x.whn,.slice D x.reads.length cd,.slice U x.puts.length cu,.int .i64 x.frm] 68)).alloc (.cells #[.int .i64 0,.int .i64 0,.int .i64 0,.slice none 0 0,.slice none 0 0,.int .i64 0] 68):=⟨_,rfl⟩
 have hbW:Below w.heap.size w W:=by rw [HW];exact(alB w _).alloc (by simp) _
 have hz:W.heap.size=w.heap.size+1+1:=by rw [HW];simp
 have hW0:W.heap[w.heap.size]?=some (.cells #[.int .i64 x.task,.int .i64 x.act,.int .i64 x.whn,.slice D x.reads.length cd,.slice U x.puts.length cu,.int .i64 x.frm] 68 (0,0)):=by
  rw [HW];exact((alB _ _).block _ (by simp)).trans (heap_alloc_new _ _)
 have hW1:W.heap[w.heap.size+1]?=some (.cells #[.int .i64 0,.int .i64 0,.int .i64 0,.slice none 0 0,.slice none 0 0,.int .i64 0] 68 (0,0)):=by
  rw [HW]
  have h1:=heap_alloc_new (w.alloc (.cells #[.int .i64 x.task,.int .i64 x.act,.int .i64 x.whn,.slice D x.reads.length cd,.slice U x.puts.length cu,.int .i64 x.frm] 68)) (.cells #[.int .i64 0,.int .i64 0,.int .i64 0,.slice none 0 0,.slice none 0 0,.int .i64 0] 68 (0,0))
  simp only [World.size_alloc] at h1
  exact h1
 have HD:=Lib.hid (And.intro (hr.d.belowAll hbW) (hr.u.belowAll hbW))
 have HW01:=Lib.hid (And.intro hW0 hW1)
 have tok1:True:=trivial
 have tok2:True:=trivial
 have n01:w.heap.size≠w.heap.size+1:=by omega
 clear hr hW0 hW1
 go_enter Tryz.func106,Tryz.ntmps106
 go_wp2_with (first
  | (go_at_call 142;have _t:=tok1;go_must (rw [← HW];refine(l11Puts_calls x.reads D cd W S HD.out.1 h1).mono ?_;rintro e w1 ⟨v1,rfl,ho1,hb1⟩;obtain⟨A1,c1,rfl,hc1,_⟩:=OwnF.row ho1;have hz1:=hb1.size;have q0:=(hb1.block w.heap.size (by omega)).trans HW01.out.1;have i0:=cell_of_row _ _ 0 _ _ _ q0;have i1:=cell_of_row _ _ 1 _ _ _ q0;have i2:=cell_of_row _ _ 2 _ _ _ q0;have i3:=cell_of_row _ _ 3 _ _ _ q0;have i4:=cell_of_row _ _ 4 _ _ _ q0;have i5:=cell_of_row _ _ 5 _ _ _ q0;have jf:=fun i=>froz_ q0 i;simp at i0 i1 i2 i3 i4 i5;have HB1:=Lib.hid hb1;have HO1:=Lib.hid ho1;have HC1:=Lib.hid hc1;clear tok1 q0 hb1 ho1 hc1)) | (go_at_call 142;have _t:=tok2;go_must (obtain⟨X,hX⟩:∃ X,X=w1.setCell ⟨w.heap.size,3,none⟩ (.slice A1 x.reads.length c1):=⟨_,rfl⟩;have hkX:Keep (fun k=>k=w.heap.size) W X:=(by rw [hX];exact(Keep.of_belowAll (fun k=>k=w.heap.size) HB1.out).setCell (p:=⟨w.heap.size,3,none⟩) (fun _=>rfl) _);have hx0:=heap_set_at (i:=3) ((HB1.out.block w.heap.size (by omega)).trans HW01.out.1) (.slice A1 x.reads.length c1);rw [← hX] at hx0;simp only [List.setIfInBounds_toArray,List.set_cons_zero,List.set_cons_succ] at hx0;have hzX:=hkX.size;rw [← hX];refine(l11Puts_calls x.puts U cu X S (HD.out.2.keep hkX (fun k hk _ e=>by have:=hSS k hk;omega)) h2).mono ?_;rintro e w2 ⟨v2,rfl,ho2,hb2⟩;obtain⟨A2,c2,rfl,hc2,_⟩:=OwnF.row ho2;have hz2:=hb2.size;clear i0 i1 i2 i3 i4 i5 jf;have q0:=(hb2.block w.heap.size (by omega)).trans hx0;have i0:=cell_of_row _ _ 0 _ _ _ q0;have i1:=cell_of_row _ _ 1 _ _ _ q0;have i2:=cell_of_row _ _ 2 _ _ _ q0;have i3:=cell_of_row _ _ 3 _ _ _ q0;have i4:=cell_of_row _ _ 4 _ _ _ q0;have i5:=cell_of_row _ _ 5 _ _ _ q0;have jf:=fun i=>froz_ q0 i;simp at i0 i1 i2 i3 i4 i5;have q1:=(hb2.block (w.heap.size+1) (by omega)).trans (hkX.blk HW01.out.2 (by omega));have k0:=cell_of_row _ _ 0 _ _ _ q1;have k1:=cell_of_row _ _ 1 _ _ _ q1;have k2:=cell_of_row _ _ 2 _ _ _ q1;have k3:=cell_of_row _ _ 3 _ _ _ q1;have k4:=cell_of_row _ _ 4 _ _ _ q1;have k5:=cell_of_row _ _ 5 _ _ _ q1;have kf:=fun i=>froz_ q1 i;simp at k0 k1 k2 k3 k4 k5;have HB2:=Lib.hid hb2;have HO2:=Lib.hid ho2;have HC2:=Lib.hid hc2;have HX:=Lib.hid hX;clear tok2 q0 q1 hb2 ho2 hc2 hX hkX hx0)))
 refine bodyPost_ret (v:=.agg #[.int .i64 x.task,.int .i64 x.act,.int .i64 x.whn,.slice A1 x.reads.length c1,.slice A2 x.puts.length c2,.int .i64 x.frm]) (by simp [results,Tryz.results106,go_sem, *]) rfl ⟨A1,A2,c1,c2,rfl,?_⟩
 have key:∀ Y,Keep (fun k=>k=w.heap.size∨k=w.heap.size+1) w2 Y→EntryRows Y (fun k=>w.heap.size≤k∧k<Y.heap.size) x A1 A2 c1 c2∧Below w.heap.size w Y:=fun Y hY=>by
  have hk1:Keep (fun k=>k=w.heap.size) w1 X:=by rw [HX.out];exact(Keep.refl (fun k=>k=w.heap.size) w1).setCell (p:=⟨w.heap.size,3,none⟩) (fun _=>rfl) _
  have o1:=((HO1.out.keep hk1 (fun k e e2=>by have:=(HO1.out.blk k e).1;omega)).belowAll HB2.out).keep hY (fun k e e2=>by have:=(HO1.out.blk k e).1;omega)
  have o2:=HO2.out.keep hY (fun k e e2=>by have:=(HO2.out.blk k e).1;omega)
  obtain⟨a1,d1,e1,_,r1⟩:=o1.row
  obtain⟨a2,d2,e2,_,r2⟩:=o2.row
  injection e1 with e1 _ _
  injection e2 with e2 _ _
  subst e1;subst e2
  have hw2:Below w.heap.size w w2:=belowTwo (belowTwo hbW hbW.size (Nat.le_refl _) HB1.out) (by omega) (Nat.le_refl _) (belowTwo (B:=w.heap.size) (hk1.below (B:=w.heap.size) (fun k h e=>by omega) (by omega)) (by omega) (by omega) HB2.out)
  exact⟨⟨HC1.out,HC2.out,r1.mono fun k hk=>⟨by have:=(o1.blk k hk).1;omega,(o1.blk k hk).2⟩,r2.mono fun k hk=>⟨by have:=(o2.blk k hk).1;omega,(o2.blk k hk).2⟩⟩,belowTwo hw2 (Nat.le_refl _) (Nat.le_refl _) (hY.below (B:=w.heap.size) (fun k h e=>by omega) (by omega))⟩
 refine key _ ?_
 iterate 6 (refine Keep.setCell ?_ (fun _=>.inr rfl) _)
 refine Keep.setCell ?_ (fun _=>.inl rfl) _
 exact Keep.refl _ _
theorem l13Ahead_calls (x y:Entry)(D U D2 U2:Option Addr)(cd cu cd2 cu2:Nat)(w:World)(h1:x.puts.length≤9223372036854775807)(h2:y.puts.length≤9223372036854775807) :
  Calls Tryz.prog 105 #[.agg #[.int .i64 x.task,.int .i64 x.act,.int .i64 x.whn,.slice D x.reads.length cd,.slice U x.puts.length cu,.int .i64 x.frm],.agg #[.int .i64 y.task,.int .i64 y.act,.int .i64 y.whn,.slice D2 y.reads.length cd2,.slice U2 y.puts.length cu2,.int .i64 y.frm]] w fun e w'=>e=.returned (.bool (aheadE x y))∧Below w.heap.size w w':=by
 have hb:=alB2 w
 go_enter Tryz.func105,Tryz.ntmps105
 go_wp2
 all_goals
  go_ret
  refine⟨?_,hb _ _⟩
  unfold aheadE
  simp_all<;>(try (rw [Bool.eq_iff_iff];simp))
end Go.Proofs.YtjacjafmimgfcaaGreat
