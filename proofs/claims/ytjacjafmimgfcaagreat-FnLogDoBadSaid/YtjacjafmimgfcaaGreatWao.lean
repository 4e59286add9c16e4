/- The reference's machine: a change begins. -/
import Derived.StillTailTactics
import Derived.Test.YtjacjafmimgfcaaGreatWam
set_option linter.unusedVariables false
set_option linter.unusedSimpArgs false
namespace Go.Proofs.YtjacjafmimgfcaaGreat
open Go.RowKit
attribute [local go_sem ↓] Go.wp_at_zero Go.wp_at_succ
theorem MachO.put13 {m:Mc}{R:Nat→Role}{w:World}{vc vl:Value}{s:Sys}{ts:List TV}{es:List EV}{gt n cap j:Nat}{t:Task}{r o d u o':Value}{old':List Int}(h:MachO m R w vc (.slice (some ⟨gt,0,none⟩) n cap) vl s ts es)(hx:ts[j]?=some ⟨t,r,o,d,u⟩)(since whn frm:Int)
  (ho:OwnF Kd.int 3 w m.base o' old') (hv:∀ k,o'.ownBlock=some k→R k=.no∧m.w0.heap.size≤k) :
  Mach m (s.setT j { t with since:=since,old:=old',whn:=whn,frm:=frm }) (.slice (some ⟨gt,0,none⟩) n cap) (((((((((((((w.setCell ⟨gt,j*13,none⟩ (.int .i64 t.body)).setCell ⟨gt,j*13+1,none⟩ (.int .i64 t.pc)).setCell ⟨gt,j*13+2,none⟩ (.int .i64 t.up)).setCell ⟨gt,j*13+3,none⟩ (r)).setCell ⟨gt,j*13+4,none⟩ (.int .i64 t.way)).setCell ⟨gt,j*13+5,none⟩ (.int .i64 t.stage)).setCell ⟨gt,j*13+6,none⟩ (.int .i64 t.pos)).setCell ⟨gt,j*13+7,none⟩ (.int .i64 since)).setCell ⟨gt,j*13+8,none⟩ (o')).setCell ⟨gt,j*13+9,none⟩ (d)).setCell ⟨gt,j*13+10,none⟩ (u)).setCell ⟨gt,j*13+11,none⟩ (.int .i64 whn)).setCell ⟨gt,j*13+12,none⟩ (.int .i64 frm)):=by
 have hRt:R gt=.tasks:=h.sys.Rt gt rfl
 have h0:=h.same hx 0 (by omega) _ rfl
 have h1:=h0.same hx 1 (by omega) _ rfl
 have h2:=h1.same hx 2 (by omega) _ rfl
 have h3:=h2.same hx 3 (by omega) _ rfl
 have h4:=h3.same hx 4 (by omega) _ rfl
 have h5:=h4.same hx 5 (by omega) _ rfl
 have h6:=h5.same hx 6 (by omega) _ rfl
 have h7:=h6.int hx 7 (by omega) since { t with since:=since } rfl rfl rfl rfl rfl
 have hk:Keep (fun k=>k=gt) w ((((((((w.setCell ⟨gt,j*13,none⟩ (.int .i64 t.body)).setCell ⟨gt,j*13+1,none⟩ (.int .i64 t.pc)).setCell ⟨gt,j*13+2,none⟩ (.int .i64 t.up)).setCell ⟨gt,j*13+3,none⟩ (r)).setCell ⟨gt,j*13+4,none⟩ (.int .i64 t.way)).setCell ⟨gt,j*13+5,none⟩ (.int .i64 t.stage)).setCell ⟨gt,j*13+6,none⟩ (.int .i64 t.pos)).setCell ⟨gt,j*13+7,none⟩ (.int .i64 since)):=Keep.setCell (T:=fun k=>k=gt) (p:=⟨gt,j*13+7,none⟩) (Keep.setCell (T:=fun k=>k=gt) (p:=⟨gt,j*13+6,none⟩) (Keep.setCell (T:=fun k=>k=gt) (p:=⟨gt,j*13+5,none⟩) (Keep.setCell (T:=fun k=>k=gt) (p:=⟨gt,j*13+4,none⟩) (Keep.setCell (T:=fun k=>k=gt) (p:=⟨gt,j*13+3,none⟩) (Keep.setCell (T:=fun k=>k=gt) (p:=⟨gt,j*13+2,none⟩) (Keep.setCell (T:=fun k=>k=gt) (p:=⟨gt,j*13+1,none⟩) (Keep.setCell (T:=fun k=>k=gt) (p:=⟨gt,j*13,none⟩) (Keep.refl _ w) (fun _=>rfl) _) (fun _=>rfl) _) (fun _=>rfl) _) (fun _=>rfl) _) (fun _=>rfl) _) (fun _=>rfl) _) (fun _=>rfl) _) (fun _=>rfl) _
 have ho8:=ho.keep hk (fun k e e2=>by have:=(hv k e).1;rw [e2,hRt] at this;cases this)
 obtain⟨R8,h8⟩:=h7.rowO (ts_set hx) (Keep.refl _ _) ho8 (fun k e=>.inr (hv k e))
 have hx8:=ts_set (y:=⟨{ t with since:=since,old:=old' },r,o',d,u⟩) hx
 rw [setT_setT,List.set_set] at h8
 have h9:=h8.same hx8 9 (by omega) _ rfl
 have h10:=h9.same hx8 10 (by omega) _ rfl
 have h11:=h10.int hx8 11 (by omega) whn { t with since:=since,old:=old',whn:=whn } rfl rfl rfl rfl rfl
 have h12:=h11.int (ts_set hx8) 12 (by omega) frm { t with since:=since,old:=old',whn:=whn,frm:=frm } rfl rfl rfl rfl rfl
 rw [setT_setT,setT_setT] at h12
 exact h12.mach
set_option maxHeartbeats 2000000 in
set_option maxRecDepth 100000 in
theorem begin_calls (m:Mc)(s:Sys)(vt:Value)(w:World)(k:Nat)(h:Mach m s vt w)(hk:k<s.tasks.length)(hold:(s.t k).regs.length≤1000000) :
  Calls Tryz.prog 163 #[.pointer (some ⟨m.g,0,none⟩),.int .i64 k] w (Steps m (beginS s k) vt):=by
 obtain⟨R,vc,vl,ts,es,H⟩:=h
 obtain⟨gt,cap,Ar,cr,Ao,co,Ad,cd,Au,cu,rfl,hx,hr,ho,hd,hu⟩:=H.at_ hk
 obtain⟨hne,hlt,hgl,_,g3,g4,g5,hat,hfz,_⟩:=H.see hx
 have hmax:=H.max
 have c0:=hat.c0;have c1:=hat.c1;have c2:=hat.c2;have c3:=hat.c3;have c4:=hat.c4;have c5:=hat.c5;have c6:=hat.c6;have c7:=hat.c7;have c8:=hat.c8;have c9:=hat.c9;have c10:=hat.c10;have c11:=hat.c11;have c12:=hat.c12
 obtain⟨Al,cl,rfl,_⟩:=Own.slice H.sys.l
 have hln:=H.sys.m
 rw [hln] at g5
 have x1:(k:Int)<s.tasks.length:=by omega
 have x3:(0:Int)≤k:=by omega
 have HH:=Lib.hid (And.intro H (And.intro hx hln))
 clear H hx hat hln ho hd hu
 go_enter Tryz.func163,Tryz.ntmps163
 go_wp2_with (at_builtin;go_must (refine wpList_clone_at (d:=Kd.int) (w.heap.size+1) (by simp) rfl (.tmp 19) (.tmp 21) _ rfl Tryz.underlying22 _ 8 infoInt rfl (by decide) (by decide) rfl Ar cr rfl (hr.belowAll (alB w _)) (by omega) ?_;intro vr w2 hoc hbc;obtain⟨An,cn,rfl,hcn⟩:=Own.slice hoc;have q0:=hbc.block w.heap.size (by simp);rw [heap_alloc_new] at q0;have q1:=fun i=>cell_of_row _ _ i _ _ _ q0;have q2:=fun i=>frozen_of_row _ _ i _ _ q0;have q3:=q1 3;have q8:=q1 8;have q12:=q1 12;have q11:=q1 11;simp at q3 q8 q12 q11;clear q1;have g5':=((hbc.cell (p:=⟨m.g,5,none⟩) (by simp;omega)).trans ((alB w _).cell (p:=⟨m.g,5,none⟩) hgl)).trans g5;have g3':=((hbc.cell (p:=⟨m.g,3,none⟩) (by simp;omega)).trans ((alB w _).cell (p:=⟨m.g,3,none⟩) hgl)).trans g3))
 obtain⟨W,HW⟩:∃ W,W=((w2.setCell ⟨w.heap.size,8,none⟩ (.slice An (s.t k).regs.length cn)).setCell ⟨w.heap.size,12,none⟩ (.int .i64 (s.log.length:Nat))).setCell ⟨w.heap.size,11,none⟩ (.int .i64 0):=⟨_,rfl⟩
 have hbW:Below w.heap.size w W:=by
  rw [HW]
  exact(((below_then (alB w _) (by simp) hbc).setCell (p:=⟨w.heap.size,8,none⟩) (Nat.le_refl _) _).setCell (p:=⟨w.heap.size,12,none⟩) (Nat.le_refl _) _).setCell (p:=⟨w.heap.size,11,none⟩) (Nat.le_refl _) _
 have qB:=heap_set_at (i:=11) (heap_set_at (i:=12) (heap_set_at (i:=8) q0 (.slice An (s.t k).regs.length cn)) (.int .i64 (s.log.length:Nat))) (.int .i64 0)
 simp only [List.setIfInBounds_toArray,List.set_cons_zero,List.set_cons_succ] at qB
 have hblk:∀ k',(Value.slice An (s.t k).regs.length cn).ownBlock=some k'→w.heap.size+1≤k':=fun k' e=>by have:=(Own.blk hoc k' e).1;simpa using this
 have hoW:OwnF Kd.int 3 W m.base (.slice An (s.t k).regs.length cn) (s.t k).regs:=by
  have h1:OwnF Kd.int 3 w2 m.base (.slice An (s.t k).regs.length cn) (s.t k).regs:=(OwnF.of plain_int hoc).lower (by have:=HH.out.1.bl;simp;omega)
  rw [HW]
  exact((h1.far (p:=⟨w.heap.size,8,none⟩) (fun k e=>by have:=hblk k e;show k≠w.heap.size;omega) _).far (p:=⟨w.heap.size,12,none⟩) (fun k e=>by have:=hblk k e;show k≠w.heap.size;omega) _).far (p:=⟨w.heap.size,11,none⟩) (fun k e=>by have:=hblk k e;show k≠w.heap.size;omega) _
 have HOW:=Lib.hid hoW
 have HOB:=Lib.hid (fun k' e=>Nat.le_of_succ_le (hblk k' e))
 clear hoW hblk hoc
 rw [← HW] at qB ⊢
 clear HW q0 q2 q3 q8 q12 q11 g5' g3' g3 g4 g5 c0 c1 c2 c3 c4 c5 c6 c7 c8 c9 c10 c11 c12 hfz
 obtain⟨e0,e1,e2,e3,e4,e5,e6,e7,e8,e9,e10,e11,e12⟩:=block13 qB
 obtain⟨_,hltW,hglW,_,g3,_,_,hat,hfz,_⟩:=(HH.out.1.below hbW).see HH.out.2.1
 have c0:=hat.c0;have c1:=hat.c1;have c2:=hat.c2;have c3:=hat.c3;have c4:=hat.c4;have c5:=hat.c5;have c6:=hat.c6;have c7:=hat.c7;have c8:=hat.c8;have c9:=hat.c9;have c10:=hat.c10;have c11:=hat.c11;have c12:=hat.c12
 clear hat qB
 go_still_tail 8,(by kernel_rfl)
 have hoW:OwnF Kd.int 3 W m.base (.slice An (s.t k).regs.length cn) (s.t k).regs:=HOW.out
 have HM:=Lib.hid (((HH.out.1.below hbW).put13 HH.out.2.1 s.clock 0 (s.log.length:Nat) hoW (fun k e=>HH.out.1.fresh (HOB.out k e))).below ((Below.refl _ _).drew))
 go_wp2_with (go_at_call 166;go_must (refine(stage_calls m _ _ _ k 1 HM.out (by rw [setT_n];exact hk)).mono ?_;rintro e w9 ⟨rfl,H9⟩))
 go_end0
 refine⟨rfl,?_⟩
 rw [setT_setT,setT_t hk] at H9
 exact H9
end Go.Proofs.YtjacjafmimgfcaaGreat
