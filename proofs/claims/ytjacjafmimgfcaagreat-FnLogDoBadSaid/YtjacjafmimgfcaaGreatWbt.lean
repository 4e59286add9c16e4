/- Draws: a program, a system of it, and a list of its changes. -/
import Derived.Deep.Cut
import Derived.Test.YtjacjafmimgfcaaGreatWbf
import Derived.Test.YtjacjafmimgfcaaGreatWbj
import Derived.Test.YtjacjafmimgfcaaGreatWbs
set_option linter.unusedVariables false
set_option linter.unusedSimpArgs false
namespace Go.Proofs.YtjacjafmimgfcaaGreat
open Go.RowKit
attribute [local go_sem ↓] Go.wp_at_zero Go.wp_at_succ
theorem sysRest_any (p:Prog)(s:Sys)(P Q A B C:Option Addr)(cp cq ca cb cc:Nat)(w:World)(S:Nat→Prop)(hP:Row Kd.int w S P p.cells)(hQ:Row (Kd.slice kAct) w S Q p.bodies)(hR:SysR w S s A B C)(hSS:∀ k,S k→k<w.heap.size)(hrun:RunOk p s 1000 2000) :
  Calls Tryz.prog 62 #[.agg #[.slice P p.cells.length cp,.slice Q p.bodies.length cq],.agg #[.slice A s.cells.length ca,.slice B s.tasks.length cb,.int .i64 s.clock,.slice C s.log.length cc],.int .i64 1000] w fun e w'=>∃ (s':Sys) (did:Bool),LogFew s'.log∧DoPost w S s' did e w':=by
 cases hok:sysOk p s with
 | true =>
  refine(sysRest_good p s 1000 P Q A B C cp cq ca cb cc w S hP hQ hR hSS hok (by omega) (Nat.le_trans hrun.log (by omega))).mono fun e w' h=>⟨_,_,?_,h⟩
  have:=rest_ok (p:=p) 1000 1001 s 1000 (Nat.le_refl _) (a:=1000) (q:=2000) ⟨hrun.inv,hrun.win,Nat.le_trans hrun.tasks (by omega),Nat.le_trans hrun.mass (by omega)⟩
  exact this.few (by omega)
 | false =>
  refine(sysRest_bad p s 1000 P Q A B C cp cq ca cb cc w S hP hQ hR hSS (.inl hok)).mono fun e w' h=>⟨⟨[],[],0,[]⟩,false,⟨by simp,fun e he=>by simp at he⟩,none,none,none,0,0,0,h.1,?_,h.2⟩
  exact⟨⟨by simp,fun h=>absurd rfl h⟩,⟨by simp,fun h=>absurd rfl h⟩,⟨by simp,fun h=>absurd rfl h⟩⟩
theorem two_first (w:World)(o1 o2:Obj):((w.alloc o1).alloc o2).heap[w.heap.size]?=some o1:=((alB _ _).block _ (by simp)).trans (heap_alloc_new _ _)
theorem two_second (w:World)(o1 o2:Obj):((w.alloc o1).alloc o2).heap[w.heap.size+1]?=some o2:=by
 have h1:=heap_alloc_new (w.alloc o1) o2
 simp only [World.size_alloc] at h1
 exact h1
theorem log_first {w:World}{B g n c:Nat}{xs:List Entry}(h:OwnE w B (.slice (some ⟨g,0,none⟩) n c) xs):∃ a0:Int,0<n→w.cell? ⟨g,1,none⟩=some (.int .i64 a0)∧w.frozen? ⟨g,1,none⟩=false∧g<w.heap.size∧B≤g:=by
 obtain⟨A,c',e,_,_⟩:=Own.row h
 injection e with _ e _
 subst e
 by_cases hn:0<xs.length
 ·obtain⟨cs,⟨d,u,rfl,_⟩,hc,hf2⟩:=Own.cellAt h hn
  have h1:=hc 1 _ rfl
  have hb:=Own.blk h g rfl
  exact⟨xs[0].act,fun _=>⟨by simpa using h1,hf2 1,hb.2.1,hb.1⟩⟩
 ·exact⟨0,fun h=>absurd h hn⟩
theorem LogFew.order {l:List Entry}(h:LogFew l):LogFew (logOrder l):=⟨by rw [logOrder_len];exact h.1,fun e he=>h.2 e (logOrder_mem he)⟩
theorem LogFew.drop {l:List Entry}(h:LogFew l)(n:Nat):LogFew (l.drop n):=⟨by rw [List.length_drop];have:=h.1;omega,fun e he=>h.2 e (List.mem_of_mem_drop he)⟩
theorem LogFew.act {l:List Entry}(h:LogFew l)(h0:0<l.length)(a:Int):LogFew (l.set 0 { l[0] with act:=a }):=by
 refine⟨by rw [List.length_set];exact h.1,fun e he=>?_⟩
 rcases List.mem_or_eq_of_mem_set he with he | he
 ·exact h.2 e he
 ·subst he
  have:=h.2 l[0] (List.getElem_mem h0)
  exact⟨this.1,this.2.1,this.2.2⟩
theorem ownE_act {w:World}{B g c:Nat}{xs:List Entry}{n:Nat}(h:OwnE w B (.slice (some ⟨g,0,none⟩) n c) xs)(hn:n=xs.length)(h0:0<xs.length)(a:Int):OwnE (w.setCell ⟨g,1,none⟩ (.int .i64 a)) B (.slice (some ⟨g,0,none⟩) n c) (xs.set 0 { xs[0] with act:=a }):=by
 subst hn
 have h1:=Own.setAt h h0 (i:=1) (show 1<6 by decide) (.int .i64 a) { xs[0] with act:=a } (fun c0 hc0=>by
  obtain⟨d,u,rfl,hd,hu⟩:=hc0
  exact⟨d,u,rfl,hd,hu⟩)
 have e:0*kEntry.sz+1=1:=by simp
 rw [e] at h1
 exact h1
theorem ownE_row {w:World}{B g n c:Nat}{xs:List Entry}(h:OwnE w B (.slice (some ⟨g,0,none⟩) n c) xs):n=xs.length∧n≤c∧Row kEntry w (fun k=>B≤k∧k<w.heap.size) (some ⟨g,0,none⟩) xs:=by
 obtain⟨A,c',e,hc,hr⟩:=Own.row h
 injection e with e1 e2 e3
 subst e1;subst e2;subst e3
 exact⟨rfl,hc,hr.bound⟩
def newLog (B:Nat) (v:Value) (w':World):Prop :=
 ∃ (p:Prog) (s:Sys) (l:List Entry) (P Q A B' C L:Option Addr) (cp cq ca cb cc cl:Nat),v=.tuple #[.agg #[.slice P p.cells.length cp,.slice Q p.bodies.length cq],.agg #[.slice A s.cells.length ca,.slice B' s.tasks.length cb,.int .i64 s.clock,.slice C s.log.length cc],.slice L l.length cl] ∧
  Row Kd.int w' (fun k=>B≤k∧k<w'.heap.size) P p.cells∧Row (Kd.slice kAct) w' (fun k=>B≤k∧k<w'.heap.size) Q p.bodies∧SysR w' (fun k=>B≤k∧k<w'.heap.size) s A B' C∧Row kEntry w' (fun k=>B≤k∧k<w'.heap.size) L l∧LogFew l
theorem draw_end {w W w1 w2 w4 w5 Y Yf:World}{g g4 x2 x3:Nat}{p:Prog}{s':Sys}{P Q A3 B3 C3 L:Option Addr}{cp cq ca3 cb3 cc3 n9 cl:Nat}{l:List Entry}(hbW:Below w.heap.size w W)(hz:W.heap.size=w.heap.size+1+1)(hb1:Below W.heap.size W w1)(hk2:Keep (fun k=>k=g) w1 w2)(hk24:Keep (fun k=>k=w2.heap.size+1) w2 w4)(hk5:Keep (fun k=>k=g) w4 w5)(hY:Keep (fun k=>k=g4) w5 Y)(hYf:Keep (fun k=>k=w.heap.size∨k=w.heap.size+1) Y Yf)
  (hP:Row Kd.int w2 (fun k=>w1.heap.size≤k∧k<w2.heap.size) P p.cells) (hQ:Row (Kd.slice kAct) w2 (fun k=>w1.heap.size≤k∧k<w2.heap.size) Q p.bodies) (hS:SysR w4 (fun k=>k<x3∧((w1.heap.size≤k∧k<w2.heap.size)∨x2≤k)) s' A3 B3 C3) (hrow:Row kEntry Y (fun k=>W.heap.size≤k∧k<Y.heap.size) L l) (hl:l.length=n9) (hfew:LogFew l)
  (hg1:W.heap.size≤g) (hg:g<w1.heap.size) (h2:x2=w2.heap.size+1+1) (h3:x3≤g4) (h3':x3≤w4.heap.size) (hg4:w2.heap.size+1<g4) :
  newLog w.heap.size (.tuple #[.agg #[.slice P p.cells.length cp,.slice Q p.bodies.length cq],.agg #[.slice A3 s'.cells.length ca3,.slice B3 s'.tasks.length cb3,.int .i64 s'.clock,.slice C3 s'.log.length cc3],.slice L n9 cl]) Yf∧Below w.heap.size w Yf:=by
 subst hl
 have z1:=hb1.size
 have z2:=hk2.size
 have z4:=hk24.size
 have z5:=hk5.size
 have zY:=hY.size
 have zF:=hYf.size
 refine⟨⟨p,s',l,P,Q,A3,B3,C3,L,cp,cq,ca3,cb3,cc3,cl,rfl,?_,?_,?_,?_,hfew⟩,?_⟩
 ·exact(((((hP.keep hk24 (fun k h _ e=>by omega)).keep hk5 (fun k h _ e=>by omega)).keep hY (fun k h _ e=>by omega)).keep hYf (fun k h _ e=>by omega)).mono (fun k h=>by omega))
 ·exact(((((hQ.keep hk24 (fun k h _ e=>by omega)).keep hk5 (fun k h _ e=>by omega)).keep hY (fun k h _ e=>by omega)).keep hYf (fun k h _ e=>by omega)).mono (fun k h=>by omega))
 ·exact((hS.keep_ (S':=fun k=>k<x3∧((w1.heap.size≤k∧k<w2.heap.size)∨x2≤k)) hk5 (fun k h e=>by omega) (fun k h=>h)).keep_ (S':=fun k=>k<x3∧((w1.heap.size≤k∧k<w2.heap.size)∨x2≤k)) hY (fun k h e=>by omega) (fun k h=>h)).keep_ hYf (fun k h e=>by omega) (fun k h=>by omega)
 ·exact(hrow.keep hYf (fun k h _ e=>by omega)).mono (fun k h=>by omega)
 ·have b1:=belowTwo hbW hbW.size (Nat.le_refl _) hb1
  have b2:=belowTwo b1 (Nat.le_refl _) (Nat.le_refl _) (hk2.below (B:=w.heap.size) (fun k h e=>by omega) (by omega))
  have b4:=belowTwo b2 (Nat.le_refl _) (Nat.le_refl _) (hk24.below (B:=w.heap.size) (fun k h e=>by omega) (by omega))
  have b5:=belowTwo b4 (Nat.le_refl _) (Nat.le_refl _) (hk5.below (B:=w.heap.size) (fun k h e=>by omega) (by omega))
  have bY:=belowTwo b5 (Nat.le_refl _) (Nat.le_refl _) (hY.below (B:=w.heap.size) (fun k h e=>by omega) (by omega))
  exact belowTwo bY (Nat.le_refl _) (Nat.le_refl _) (hYf.below (B:=w.heap.size) (fun k h e=>by omega) (by omega))
set_option maxHeartbeats 4000000 in
set_option maxRecDepth 100000 in
theorem drawLogDo_calls (xs:List Int)(A:Option Addr)(c:Nat)(w:World)(S:Nat→Prop)(hr:Row Kd.byte w S A xs)(hS:∀ k,S k→k<w.heap.size)(hc:xs.length≤c) :
  Calls Tryz.prog 27 #[.slice A xs.length c] w (fun e w'=>∃ v,e=.returned v∧newLog w.heap.size v w'∧Below w.heap.size w w'):=by
 obtain⟨W,HW⟩:∃ W,W=(w.alloc (.cells #[.slice none 0 0,.slice none 0 0] 39)).alloc (.cells #[.slice none 0 0,.slice none 0 0,.int .i64 0,.slice none 0 0] 45):=⟨_,rfl⟩
 have hz:W.heap.size=w.heap.size+1+1:=by rw [HW];simp
 have hbW:Below w.heap.size w W:=by rw [HW];exact(alB w _).alloc (by simp) _
 have hW0:W.heap[w.heap.size]?=some (.cells #[.slice none 0 0,.slice none 0 0] 39 (0,0)):=by
  rw [HW];exact((alB _ _).block _ (by simp)).trans (heap_alloc_new _ _)
 have hW1:W.heap[w.heap.size+1]?=some (.cells #[.slice none 0 0,.slice none 0 0,.int .i64 0,.slice none 0 0] 45 (0,0)):=by
  rw [HW]
  have h1:=heap_alloc_new (w.alloc (.cells #[.slice none 0 0,.slice none 0 0] 39)) (.cells #[.slice none 0 0,.slice none 0 0,.int .i64 0,.slice none 0 0] 45 (0,0))
  simp only [World.size_alloc] at h1
  exact h1
 have HW01:=Lib.hid (And.intro hW0 hW1)
 have HX:=Lib.hid (And.intro (hr.belowAll hbW) hS)
 clear hW0 hW1 hr hS
 go_enter Tryz.func27,Tryz.ntmps27
 go_wp2_with (first
  | (go_at_call 60;go_must (rw [← HW];refine(l6Open_calls xs A c W S HX.out.1 (fun k hk=>by have:=HX.out.2 k hk;omega) hc).mono ?_;rintro e w1 ⟨g,A1,c1,bs,rfl,hR1,hg1,hb1⟩;have hz1:=hb1.size;have HR1:=Lib.hid hR1;have HB1:=Lib.hid hb1;have hg:=hR1.lt;have HG1:=Lib.hid hg1;clear hR1 hb1)) | (go_at_call 61;go_must (refine(l71Sys_calls w1 g S A1 c1 bs 5 (HR1.out.less (by omega))).mono ?_;rintro e w2 ⟨_,rfl,⟨p,s,P,Q,A2,B2,C2,cp,cq,ca,cb,cc,rfl,hP,hQ,hSy,hrun⟩,hR2,hk2⟩;have hz2:=hk2.size;have HR2:=Lib.hid hR2;have HK2:=Lib.hid hk2;have HS2:=Lib.hid (And.intro hP (And.intro hQ (And.intro hSy hrun)));clear hP hQ hSy hrun hR2 hk2)) | (go_at_call 62;go_must (obtain⟨X2,hX2⟩:∃ X2,X2=(w2.alloc (.cells #[.slice P p.cells.length cp,.slice Q p.bodies.length cq] 39)).alloc (.cells #[.slice A2 s.cells.length ca,.slice B2 s.tasks.length cb,.int .i64 s.clock,.slice C2 s.log.length cc] 45):=⟨_,rfl⟩;have hb22:Below w2.heap.size w2 X2:=(by rw [hX2];exact alB2 w2 _ _);have hzX2:X2.heap.size=w2.heap.size+1+1:=(by rw [hX2];simp);have x20:X2.heap[w2.heap.size]?=some (.cells #[.slice P p.cells.length cp,.slice Q p.bodies.length cq] 39 (0,0)):=(by rw [hX2];exact two_first _ _ _);have x21:X2.heap[w2.heap.size+1]?=some (.cells #[.slice A2 s.cells.length ca,.slice B2 s.tasks.length cb,.int .i64 s.clock,.slice C2 s.log.length cc] 45 (0,0)):=(by rw [hX2];exact two_second _ _ _);rw [← hX2];refine(sysRest_any p s P Q A2 B2 C2 cp cq ca cb cc X2 (fun k=>w1.heap.size≤k∧k<w2.heap.size) (HS2.out.1.belowAll hb22) (HS2.out.2.1.belowAll hb22) (HS2.out.2.2.1.below hb22) (fun k hk=>by have:=hk.2;omega) HS2.out.2.2.2).mono ?_;rintro e w3 ⟨s',did,hfew,A3,B3,C3,ca3,cb3,cc3,rfl,hS3,hb3⟩;have hz3:=hb3.size;have r1:=(hb3.block (w2.heap.size+1) (by omega)).trans x21;have i0:=cell_of_row _ _ 0 _ _ _ r1;have i1:=cell_of_row _ _ 1 _ _ _ r1;have i2:=cell_of_row _ _ 2 _ _ _ r1;have i3:=cell_of_row _ _ 3 _ _ _ r1;have jf:=fun i=>froz_ r1 i;simp at i0 i1 i2 i3;have HB22:=Lib.hid (And.intro hb22 x20);have HB3:=Lib.hid hb3;have HS3:=Lib.hid (And.intro hS3 (And.intro hfew r1));clear hX2 hb22 x20 x21 r1 hb3 hS3 hfew)) | (go_at_call 63;go_must (obtain⟨X3,hX3⟩:∃ X3,X3=(((w3.setCell ⟨w2.heap.size+1,0,none⟩ (.slice A3 s'.cells.length ca3)).setCell ⟨w2.heap.size+1,1,none⟩ (.slice B3 s'.tasks.length cb3)).setCell ⟨w2.heap.size+1,2,none⟩ (.int .i64 s'.clock)).setCell ⟨w2.heap.size+1,3,none⟩ (.slice C3 s'.log.length cc3):=⟨_,rfl⟩;have hkX:=(by rw [hX3];exact((((Keep.refl (fun k=>k=w2.heap.size+1) w3).setCell (p:=⟨w2.heap.size+1,0,none⟩) (fun _=>rfl) _).setCell (p:=⟨w2.heap.size+1,1,none⟩) (fun _=>rfl) _).setCell (p:=⟨w2.heap.size+1,2,none⟩) (fun _=>rfl) _).setCell (p:=⟨w2.heap.size+1,3,none⟩) (fun _=>rfl) _:Keep (fun k=>k=w2.heap.size+1) w3 X3);have hzX3:X3.heap.size=w3.heap.size:=(by rw [hX3];simp);have x31:X3.heap[w2.heap.size+1]?=some (.cells #[.slice A3 s'.cells.length ca3,.slice B3 s'.tasks.length cb3,.int .i64 s'.clock,.slice C3 s'.log.length cc3] 45 (0,0)):=(by have q:=heap_set_at (i:=3) (heap_set_at (i:=2) (heap_set_at (i:=1) (heap_set_at (i:=0) HS3.out.2.2 (.slice A3 s'.cells.length ca3)) (.slice B3 s'.tasks.length cb3)) (.int .i64 s'.clock)) (.slice C3 s'.log.length cc3);simp only [List.setIfInBounds_toArray,List.set_cons_zero,List.set_cons_succ] at q;rw [hX3];exact q);have hsy3:SysR X3 (fun k=>k<w3.heap.size∧((w1.heap.size≤k∧k<w2.heap.size)∨X2.heap.size≤k)) s' A3 B3 C3:=HS3.out.1.keep_ hkX (fun k h e=>by omega) (fun k h=>h);rw [← hX3];refine(logOrder_calls s'.log C3 cc3 X3 (fun k=>k<w3.heap.size∧((w1.heap.size≤k∧k<w2.heap.size)∨X2.heap.size≤k)) hsy3.l (fun k hk=>by have:=hk.1;omega) (Nat.le_trans HS3.out.2.1.1 (by omega)) (fun e he=>⟨(HS3.out.2.1.2 e he).1,(HS3.out.2.1.2 e he).2.1⟩)).mono ?_;rintro e w4 ⟨g4,c4,rfl,hO4,hb4⟩;have hz4:=hb4.size;have HSY:=Lib.hid (And.intro (hsy3.below hb4) (And.intro ((hb4.block _ (by omega)).trans x31) HS3.out.2.1));have HO4:=Lib.hid hO4;have hk24:Keep (fun k=>k=w2.heap.size+1) w2 w4:=((((Keep.of_belowAll _ HB22.out.1).trans (Keep.of_belowAll _ HB3.out)).trans hkX).trans (Keep.of_belowAll _ hb4));have HK24:=Lib.hid hk24;have HW4:=Lib.hid (And.intro (hk24.blk (HK2.out.blk ((HB1.out.block _ (by omega)).trans HW01.out.1) (by omega)) (by omega)) (hk24.blk (HK2.out.blk ((HB1.out.block _ (by omega)).trans HW01.out.2) (by omega)) (by omega)));have HR4:=Lib.hid (HR2.out.keep hk24 (by omega) (fun k hs _ e=>by have:=HR2.out.ne k hs;omega));have HP4:=Lib.hid ((hb4.block w2.heap.size (by omega)).trans (hkX.blk ((HB3.out.block w2.heap.size (by omega)).trans HB22.out.2) (by omega)));clear hX3 hkX x31 hsy3 hO4 hb4 hk24 i0 i1 i2 i3 jf)) | (go_at_call 64;go_must (refine(pick_calls 12 w4 g S A1 c1 bs 4 HR4.out (by omega)).mono ?_;rintro e w5 ⟨n,rfl,hn0,hn1,hR5,hk5⟩;have hz5:=hk5.size;have xw0:=hk5.blk HW4.out.1 (by omega);have xw1:=hk5.blk HW4.out.2 (by omega);have x4:=hk5.blk HP4.out (by omega);have x5:=hk5.blk HSY.out.2.1 (by omega);have t0:=cell_of_row _ _ 0 _ _ _ xw0;have t1:=cell_of_row _ _ 1 _ _ _ xw0;have tf:=fun i=>froz_ xw0 i;have u0:=cell_of_row _ _ 0 _ _ _ xw1;have u1:=cell_of_row _ _ 1 _ _ _ xw1;have u2:=cell_of_row _ _ 2 _ _ _ xw1;have u3:=cell_of_row _ _ 3 _ _ _ xw1;have uf:=fun i=>froz_ xw1 i;have p0:=cell_of_row _ _ 0 _ _ _ x4;have p1:=cell_of_row _ _ 1 _ _ _ x4;have q0:=cell_of_row _ _ 0 _ _ _ x5;have q1:=cell_of_row _ _ 1 _ _ _ x5;have q2:=cell_of_row _ _ 2 _ _ _ x5;have q3:=cell_of_row _ _ 3 _ _ _ x5;simp at t0 t1 u0 u1 u2 u3 p0 p1 q0 q1 q2 q3;clear xw0 xw1 x4 x5;have hg4:=Own.blk HO4.out g4 rfl;have hgg:=hg4.1;have hgl:=hg4.2.1;clear hg4;obtain⟨a0,ha0⟩:=log_first HO4.out;have HO5:=Lib.hid (HO4.out.step (fun k h1 h2=>hk5.block k h2 (by omega)));have ha1:0<s'.log.length→w5.cell? ⟨g4,1,none⟩=some (.int .i64 a0):=(fun h=>(hk5.cell (p:=⟨g4,1,none⟩) (ha0 h).2.2.1 (by show ¬ g4=g;have h9:=(ha0 h).2.2.2;omega)).trans (ha0 h).1);have ha2:0<s'.log.length→w5.frozen? ⟨g4,1,none⟩=false:=(fun h=>(hk5.frozen (p:=⟨g4,1,none⟩) (ha0 h).2.2.1 (by show ¬ g4=g;have h9:=(ha0 h).2.2.2;omega)).trans (ha0 h).2.1);have HA0:=Lib.hid ha0;have HK5:=Lib.hid hk5;have ne0a:w2.heap.size≠w.heap.size:=(by omega);have ne0b:w.heap.size≠w2.heap.size:=(by omega);have ne1a:w2.heap.size≠w.heap.size+1:=(by omega);have ne1b:w.heap.size+1≠w2.heap.size:=(by omega);have ne2a:w2.heap.size+1≠w.heap.size:=(by omega);have ne2b:w.heap.size≠w2.heap.size+1:=(by omega);have ne3a:w2.heap.size+1≠w.heap.size+1:=(by omega);have ne3b:w.heap.size+1≠w2.heap.size+1:=(by omega);have ne4a:g4≠w.heap.size:=(by omega);have ne4b:w.heap.size≠g4:=(by omega);have ne5a:g4≠w.heap.size+1:=(by omega);have ne5b:w.heap.size+1≠g4:=(by omega);have ne6a:g4≠w2.heap.size:=(by omega);have ne6b:w2.heap.size≠g4:=(by omega);have ne7a:g4≠w2.heap.size+1:=(by omega);have ne7b:w2.heap.size+1≠g4:=(by omega);have HEND:Hid (∀ (Y Yf:World) (L:Option Addr) (n9 cl:Nat) (l:List Entry),Keep (fun k=>k=g4) w5 Y→Row kEntry Y (fun k=>W.heap.size≤k∧k<Y.heap.size) L l→l.length=n9→LogFew l→Keep (fun k=>k=w.heap.size∨k=w.heap.size+1) Y Yf→newLog w.heap.size (.tuple #[.agg #[.slice P p.cells.length cp,.slice Q p.bodies.length cq],.agg #[.slice A3 s'.cells.length ca3,.slice B3 s'.tasks.length cb3,.int .i64 s'.clock,.slice C3 s'.log.length cc3],.slice L n9 cl]) Yf∧Below w.heap.size w Yf):=Lib.hid (fun Y Yf L n9 cl l hY hrow hl hfew hYf=>draw_end hbW hz HB1.out HK2.out HK24.out hk5 hY hYf HS2.out.1 HS2.out.2.1 HSY.out.1 hrow hl hfew HG1.out hg hzX2 (by omega) (by omega) (by omega));clear ha0 hk5 hR5)))
 ·go_region_held3 (fun w'=>w'.cell? ⟨w2.heap.size,0,none⟩=some (.slice P p.cells.length cp)∧w'.cell? ⟨w2.heap.size,1,none⟩=some (.slice Q p.bodies.length cq)∧w'.cell? ⟨w2.heap.size+1,0,none⟩=some (.slice A3 s'.cells.length ca3)∧w'.cell? ⟨w2.heap.size+1,1,none⟩=some (.slice B3 s'.tasks.length cb3)∧w'.cell? ⟨w2.heap.size+1,2,none⟩=some (.int .i64 s'.clock)∧w'.cell? ⟨w2.heap.size+1,3,none⟩=some (.slice C3 s'.log.length cc3)) (go_keep) (fail)
  go_wp2
  refine bodyPost_ret (v:=.tuple #[.agg #[.slice P p.cells.length cp,.slice Q p.bodies.length cq],.agg #[.slice A3 s'.cells.length ca3,.slice B3 s'.tasks.length cb3,.int .i64 s'.clock,.slice C3 s'.log.length cc3],.slice C3 s'.log.length cc3]) (by simp [results,Tryz.results27,go_sem, *]) rfl ⟨_,rfl,HEND.out w5 _ C3 s'.log.length cc3 s'.log (Keep.refl _ _) ((HSY.out.1.keep_ (S':=fun k=>W.heap.size≤k∧k<w5.heap.size) HK5.out (fun k h e=>by omega) (fun k h=>by omega)).l) rfl HSY.out.2.2 ?_⟩
  refine Keep.drew ?_
  iterate 4 (refine Keep.setCell ?_ (fun _=>.inr rfl) _)
  iterate 2 (refine Keep.setCell ?_ (fun _=>.inl rfl) _)
  exact Keep.refl _ _
 ·go_region_held3 (fun w'=>w'.cell? ⟨w2.heap.size,0,none⟩=some (.slice P p.cells.length cp)∧w'.cell? ⟨w2.heap.size,1,none⟩=some (.slice Q p.bodies.length cq)∧w'.cell? ⟨w2.heap.size+1,0,none⟩=some (.slice A3 s'.cells.length ca3)∧w'.cell? ⟨w2.heap.size+1,1,none⟩=some (.slice B3 s'.tasks.length cb3)∧w'.cell? ⟨w2.heap.size+1,2,none⟩=some (.int .i64 s'.clock)∧w'.cell? ⟨w2.heap.size+1,3,none⟩=some (.slice C3 s'.log.length cc3)) (go_keep) (fail)
  go_wp2
  refine bodyPost_ret (v:=.tuple #[.agg #[.slice P p.cells.length cp,.slice Q p.bodies.length cq],.agg #[.slice A3 s'.cells.length ca3,.slice B3 s'.tasks.length cb3,.int .i64 s'.clock,.slice C3 s'.log.length cc3],.slice (some ⟨g4,0,none⟩) (s'.log.length-1) 0]) (by simp [results,Tryz.results27,go_sem, *]) rfl ⟨_,rfl,HEND.out w5 _ (some ⟨g4,0,none⟩) (s'.log.length-1) 0 [] (Keep.refl _ _) ⟨by simp,fun h=>absurd rfl h⟩ (by have:=(ownE_row HO5.out).2.1;simp;omega) ⟨by simp,fun e he=>by simp at he⟩ ?_⟩
  refine Keep.drew ?_
  iterate 4 (refine Keep.setCell ?_ (fun _=>.inr rfl) _)
  iterate 2 (refine Keep.setCell ?_ (fun _=>.inl rfl) _)
  exact Keep.refl _ _
 ·go_region_held3 (fun w'=>w'.cell? ⟨w2.heap.size,0,none⟩=some (.slice P p.cells.length cp)∧w'.cell? ⟨w2.heap.size,1,none⟩=some (.slice Q p.bodies.length cq)∧w'.cell? ⟨w2.heap.size+1,0,none⟩=some (.slice A3 s'.cells.length ca3)∧w'.cell? ⟨w2.heap.size+1,1,none⟩=some (.slice B3 s'.tasks.length cb3)∧w'.cell? ⟨w2.heap.size+1,2,none⟩=some (.int .i64 s'.clock)∧w'.cell? ⟨w2.heap.size+1,3,none⟩=some (.slice C3 s'.log.length cc3)) (go_keep) (fail)
  go_wp2
  refine bodyPost_ret (v:=.tuple #[.agg #[.slice P p.cells.length cp,.slice Q p.bodies.length cq],.agg #[.slice A3 s'.cells.length ca3,.slice B3 s'.tasks.length cb3,.int .i64 s'.clock,.slice C3 s'.log.length cc3],.slice (some ⟨g4,6,none⟩) (s'.log.length-1) (c4-1)]) (by simp [results,Tryz.results27,go_sem, *]) rfl ⟨_,rfl,HEND.out w5 _ (some ⟨g4,6,none⟩) (s'.log.length-1) (c4-1) ((logOrder s'.log).drop 1) (Keep.refl _ _) (by have h9:=Row.drop (ownE_row HO5.out).2.2 1;rw [litAdd] at h9;exact h9.mono fun k hk=>by omega) (by rw [List.length_drop,logOrder_len]) (HSY.out.2.2.order.drop 1) ?_⟩
  refine Keep.drew ?_
  iterate 4 (refine Keep.setCell ?_ (fun _=>.inr rfl) _)
  iterate 2 (refine Keep.setCell ?_ (fun _=>.inl rfl) _)
  exact Keep.refl _ _
 ·go_region_held3 (fun w'=>w'.cell? ⟨w2.heap.size,0,none⟩=some (.slice P p.cells.length cp)∧w'.cell? ⟨w2.heap.size,1,none⟩=some (.slice Q p.bodies.length cq)∧w'.cell? ⟨w2.heap.size+1,0,none⟩=some (.slice A3 s'.cells.length ca3)∧w'.cell? ⟨w2.heap.size+1,1,none⟩=some (.slice B3 s'.tasks.length cb3)∧w'.cell? ⟨w2.heap.size+1,2,none⟩=some (.int .i64 s'.clock)∧w'.cell? ⟨w2.heap.size+1,3,none⟩=some (.slice C3 s'.log.length cc3)) (go_keep) (fail)
  go_wp2
  refine bodyPost_ret (v:=.tuple #[.agg #[.slice P p.cells.length cp,.slice Q p.bodies.length cq],.agg #[.slice A3 s'.cells.length ca3,.slice B3 s'.tasks.length cb3,.int .i64 s'.clock,.slice C3 s'.log.length cc3],.slice (some ⟨g4,0,none⟩) s'.log.length c4]) (by simp [results,Tryz.results27,go_sem, *]) rfl ⟨_,rfl,HEND.out w5 _ (some ⟨g4,0,none⟩) s'.log.length c4 (logOrder s'.log) (Keep.refl _ _) ((ownE_row HO5.out).2.2.mono fun k hk=>by omega) (ownE_row HO5.out).1.symm HSY.out.2.2.order ?_⟩
  refine Keep.drew ?_
  iterate 4 (refine Keep.setCell ?_ (fun _=>.inr rfl) _)
  iterate 2 (refine Keep.setCell ?_ (fun _=>.inl rfl) _)
  exact Keep.refl _ _
 ·go_region_held3 (fun w'=>w'.cell? ⟨w2.heap.size,0,none⟩=some (.slice P p.cells.length cp)∧w'.cell? ⟨w2.heap.size,1,none⟩=some (.slice Q p.bodies.length cq)∧w'.cell? ⟨w2.heap.size+1,0,none⟩=some (.slice A3 s'.cells.length ca3)∧w'.cell? ⟨w2.heap.size+1,1,none⟩=some (.slice B3 s'.tasks.length cb3)∧w'.cell? ⟨w2.heap.size+1,2,none⟩=some (.int .i64 s'.clock)∧w'.cell? ⟨w2.heap.size+1,3,none⟩=some (.slice C3 s'.log.length cc3)) (go_keep) (fail)
  go_wp2
  refine bodyPost_ret (v:=.tuple #[.agg #[.slice P p.cells.length cp,.slice Q p.bodies.length cq],.agg #[.slice A3 s'.cells.length ca3,.slice B3 s'.tasks.length cb3,.int .i64 s'.clock,.slice C3 s'.log.length cc3],.slice (some ⟨g4,0,none⟩) s'.log.length c4]) (by simp [results,Tryz.results27,go_sem, *]) rfl ⟨_,rfl,HEND.out (w5.setCell ⟨g4,1,none⟩ (.int .i64 (wrap64 (a0+1)))) _ (some ⟨g4,0,none⟩) s'.log.length c4 ((logOrder s'.log).set 0 { (logOrder s'.log)[0]'(by rw [logOrder_len];assumption) with act:=wrap64 (a0+1) }) ((Keep.refl (fun k=>k=g4) w5).setCell (p:=⟨g4,1,none⟩) (fun _=>rfl) _) ((ownE_row (ownE_act HO5.out (ownE_row HO5.out).1 (by rw [logOrder_len];assumption) (wrap64 (a0+1)))).2.2.mono fun k hk=>by omega) (by rw [List.length_set,logOrder_len]) (HSY.out.2.2.order.act (by rw [logOrder_len];assumption) _) ?_⟩
  refine Keep.drew ?_
  iterate 4 (refine Keep.setCell ?_ (fun _=>.inr rfl) _)
  iterate 2 (refine Keep.setCell ?_ (fun _=>.inl rfl) _)
  exact Keep.refl _ _
 ·go_region_held3 (fun w'=>w'.cell? ⟨w2.heap.size,0,none⟩=some (.slice P p.cells.length cp)∧w'.cell? ⟨w2.heap.size,1,none⟩=some (.slice Q p.bodies.length cq)∧w'.cell? ⟨w2.heap.size+1,0,none⟩=some (.slice A3 s'.cells.length ca3)∧w'.cell? ⟨w2.heap.size+1,1,none⟩=some (.slice B3 s'.tasks.length cb3)∧w'.cell? ⟨w2.heap.size+1,2,none⟩=some (.int .i64 s'.clock)∧w'.cell? ⟨w2.heap.size+1,3,none⟩=some (.slice C3 s'.log.length cc3)) (go_keep) (fail)
  go_wp2
  refine bodyPost_ret (v:=.tuple #[.agg #[.slice P p.cells.length cp,.slice Q p.bodies.length cq],.agg #[.slice A3 s'.cells.length ca3,.slice B3 s'.tasks.length cb3,.int .i64 s'.clock,.slice C3 s'.log.length cc3],.slice (some ⟨g4,0,none⟩) s'.log.length c4]) (by simp [results,Tryz.results27,go_sem, *]) rfl ⟨_,rfl,HEND.out w5 _ (some ⟨g4,0,none⟩) s'.log.length c4 (logOrder s'.log) (Keep.refl _ _) ((ownE_row HO5.out).2.2.mono fun k hk=>by omega) (ownE_row HO5.out).1.symm HSY.out.2.2.order ?_⟩
  refine Keep.drew ?_
  iterate 4 (refine Keep.setCell ?_ (fun _=>.inr rfl) _)
  iterate 2 (refine Keep.setCell ?_ (fun _=>.inl rfl) _)
  exact Keep.refl _ _
 ·go_region_held3 (fun w'=>w'.cell? ⟨w2.heap.size,0,none⟩=some (.slice P p.cells.length cp)∧w'.cell? ⟨w2.heap.size,1,none⟩=some (.slice Q p.bodies.length cq)∧w'.cell? ⟨w2.heap.size+1,0,none⟩=some (.slice A3 s'.cells.length ca3)∧w'.cell? ⟨w2.heap.size+1,1,none⟩=some (.slice B3 s'.tasks.length cb3)∧w'.cell? ⟨w2.heap.size+1,2,none⟩=some (.int .i64 s'.clock)∧w'.cell? ⟨w2.heap.size+1,3,none⟩=some (.slice C3 s'.log.length cc3)) (go_keep) (fail)
  go_wp2
  refine bodyPost_ret (v:=.tuple #[.agg #[.slice P p.cells.length cp,.slice Q p.bodies.length cq],.agg #[.slice A3 s'.cells.length ca3,.slice B3 s'.tasks.length cb3,.int .i64 s'.clock,.slice C3 s'.log.length cc3],.slice (some ⟨g4,0,none⟩) s'.log.length c4]) (by simp [results,Tryz.results27,go_sem, *]) rfl ⟨_,rfl,HEND.out w5 _ (some ⟨g4,0,none⟩) s'.log.length c4 (logOrder s'.log) (Keep.refl _ _) ((ownE_row HO5.out).2.2.mono fun k hk=>by omega) (ownE_row HO5.out).1.symm HSY.out.2.2.order ?_⟩
  refine Keep.drew ?_
  iterate 4 (refine Keep.setCell ?_ (fun _=>.inr rfl) _)
  iterate 2 (refine Keep.setCell ?_ (fun _=>.inl rfl) _)
  exact Keep.refl _ _
end Go.Proofs.YtjacjafmimgfcaaGreat
