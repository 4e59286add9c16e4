/- The reference: a new system.; The reference: round by round. -/
import Derived.Test.YtjacjafmimgfcaaGreatWbc
import Derived.Test.YtjacjafmimgfcaaGreatWbf
import Derived.Test.YtjacjafmimgfcaaGreatWbh
set_option maxHeartbeats 4000000
set_option maxRecDepth 100000
set_option linter.unusedVariables false
set_option linter.unusedSimpArgs false
namespace Go.Proofs.YtjacjafmimgfcaaGreat
open Go.RowKit
attribute [local go_sem ↓] Go.wp_at_zero Go.wp_at_succ
def newCell (n:Int):Cell:=⟨n,0,-1⟩
def newTo (p:Prog) (n:Nat):Sys:=⟨(p.cells.take n).map newCell,[newTask 0 (-1)],0,[]⟩
theorem newTo_all (p:Prog):newTo p p.cells.length=⟨p.cells.map fun n=>⟨n,0,-1⟩,[newTask 0 (-1)],0,[]⟩:=by unfold newTo;rw [List.take_length];rfl
def LNew (w0:World) (p:Prog) (k4 n:Nat) (vt vl:Value) (y:TV) (wr:World):Prop :=
 ∃ R vc,wr.heap[k4]?=some (.cells #[vc,vt,.int .i64 0,vl] 45 (0,0))∧SysO R wr w0.heap.size vc vt vl (newTo p n) [y] []∧R k4=.no∧w0.heap.size≤k4∧Below w0.heap.size w0 wr
theorem LNew.start {w0 w2 w3:World}(p:Prog)(hb2:Below w0.heap.size w0 w2){v:Value}{A1 A2 A3 A4:Option Addr}{c1 c2 c3 c4:Nat}(hN:NewT 0 (-1) (w2.alloc (.cells #[] 130)).heap.size v w3 (.slice A1 3 c1) (.slice A2 3 c2) (.slice A3 0 c3) (.slice A4 0 c4))(hb3:Below (w2.alloc (.cells #[] 130)).heap.size (w2.alloc (.cells #[] 130)) w3){T:Array Value}(hT:T=(TV.enc ⟨newTask 0 (-1),.slice A1 3 c1,.slice A2 3 c2,.slice A3 0 c3,.slice A4 0 c4⟩).toArray) :
  LNew w0 p (w3.heap.size+1+1) 0 (.slice (some ⟨w3.heap.size,0,none⟩) 1 1) (.slice (some ⟨w3.heap.size+1,0,none⟩) 0 0) ⟨newTask 0 (-1),.slice A1 3 c1,.slice A2 3 c2,.slice A3 0 c3,.slice A4 0 c4⟩
   (((w3.alloc (.cells T 118)).alloc (.cells #[] 68)).alloc (.cells #[.slice (some ⟨w2.heap.size,0,none⟩) 0 0,.slice (some ⟨w3.heap.size,0,none⟩) 1 1,.int .i64 0,.slice (some ⟨w3.heap.size+1,0,none⟩) 0 0] 45)):=by
 subst hT
 have z2:=hb2.size
 have z3:=hb3.size
 simp at z3
 have hE:(w2.alloc (.cells #[] 130)).heap.size=w2.heap.size+1:=by simp
 obtain⟨R0,hS0,hR0⟩:=SysO.start (w:=w2.alloc (.cells #[] 130)) (base:=w0.heap.size) (cs:=[]) (clock:=0) (vc:=.slice (some ⟨w2.heap.size,0,none⟩) 0 0) (vt:=.slice none 0 0) (vl:=.slice none 0 0) (own_nil0 plain_cell (heap_alloc_new w2 _) z2) (OwnF.nil _ _ _ _) (OwnF.nil _ _ _ _) (fun k _ e=>by cases e) (fun k _ e=>by cases e) (fun k _ e=>by cases e)
 obtain⟨W4,hW4⟩:∃ W4,W4=w3.alloc (.cells (TV.enc ⟨newTask 0 (-1),.slice A1 3 c1,.slice A2 3 c2,.slice A3 0 c3,.slice A4 0 c4⟩).toArray 118):=⟨_,rfl⟩
 have hz4:W4.heap.size=w3.heap.size+1:=by rw [hW4];simp
 have hb34:Below w3.heap.size w3 W4:=by rw [hW4];exact alB w3 _
 have hb24:Below (w2.alloc (.cells #[] 130)).heap.size (w2.alloc (.cells #[] 130)) W4:=below_then hb3 (by simp;omega) hb34
 have near:∀ {α:Type} {d:Kd α} {e:TypeId} {v:Value} {xs:List α},OwnF d e w3 (w2.alloc (.cells #[] 130)).heap.size v xs→OwnF d e W4 w0.heap.size v xs∧(∀ k,v.ownBlock=some k→(w2.alloc (.cells #[] 130)).heap.size≤k)∧∀ k,v.ownBlock=some k→(Value.slice (some ⟨w3.heap.size,0,none⟩) 1 1).ownBlock≠some k:=fun h=>by
  refine⟨(h.belowAll hb34).lower (by omega),fun k e=>(h.blk k e).1,fun k e e2=>?_⟩
  have:=(h.blk k e).2
  simp [Value.ownBlock] at e2
  omega
 obtain⟨r1,r2,r3⟩:=near hN.pr
 obtain⟨o1,o2,o3⟩:=near hN.po
 obtain⟨d1,d2,d3⟩:=near hN.pd
 obtain⟨u1,u2,u3⟩:=near hN.pu
 have hrow:OwnF kTV 118 W4 w0.heap.size (.slice (some ⟨w3.heap.size,0,none⟩) 1 1) ([] ++ [⟨newTask 0 (-1),.slice A1 3 c1,.slice A2 3 c2,.slice A3 0 c3,.slice A4 0 c4⟩]) :=
  own_one_tv (y:=⟨newTask 0 (-1),.slice A1 3 c1,.slice A2 3 c2,.slice A3 0 c3,.slice A4 0 c4⟩) (by rw [hW4];exact heap_alloc_new w3 _) (by omega) rfl rfl rfl rfl
 obtain⟨R1,hS1,hR1⟩:=hS0.pushT (y:=⟨newTask 0 (-1),.slice A1 3 c1,.slice A2 3 c2,.slice A3 0 c3,.slice A4 0 c4⟩) (Keep.of_belowAll _ hb24) hrow (fun k e=>.inr (by simp [Value.ownBlock] at e;simp;omega)) r1 o1 d1 u1 r2 o2 d2 u2 r3 o3 d3 u3 hN.ro hN.rd hN.ru hN.od hN.ou hN.du
 have hS2:=hS1.below (w':=W4.alloc (.cells #[] 68)) (alB W4 _)
 have hle:=heap_alloc_new W4 (.cells #[] 68 (0,0))
 rw [hz4] at hle
 obtain⟨R2,hS3,hR2⟩:=hS2.log0 (vl':=.slice (some ⟨w3.heap.size+1,0,none⟩) 0 0) (own_nil0 plain_ev hle (by omega)) (fun k e=>by simp [Value.ownBlock] at e;exact hS1.fresh (by omega))
 have h9:R2 (w3.heap.size+1+1)=.no:=Classical.byContradiction fun hn=>by
  rcases hR2 _ hn with e | e
  ·have:=hS1.lt _ e;omega
  ·simp [Value.ownBlock] at e
 have hS4:=hS3.below (w':=(W4.alloc (.cells #[] 68)).alloc (.cells #[.slice (some ⟨w2.heap.size,0,none⟩) 0 0,.slice (some ⟨w3.heap.size,0,none⟩) 1 1,.int .i64 0,.slice (some ⟨w3.heap.size+1,0,none⟩) 0 0] 45)) (alB _ _)
 have q0:=heap_alloc_new (W4.alloc (.cells #[] 68)) (.cells #[.slice (some ⟨w2.heap.size,0,none⟩) 0 0,.slice (some ⟨w3.heap.size,0,none⟩) 1 1,.int .i64 0,.slice (some ⟨w3.heap.size+1,0,none⟩) 0 0] 45 (0,0))
 simp only [World.size_alloc,hz4] at q0
 have hB6:Below w0.heap.size w0 ((W4.alloc (.cells #[] 68)).alloc (.cells #[.slice (some ⟨w2.heap.size,0,none⟩) 0 0,.slice (some ⟨w3.heap.size,0,none⟩) 1 1,.int .i64 0,.slice (some ⟨w3.heap.size+1,0,none⟩) 0 0] 45)):=below_then hb2 hb2.size (below_then ((alB w2 (.cells #[] 130))) (by simp) (below_then hb24 (by simp;omega) ((alB W4 _).alloc (by simp) _)))
 rw [← hW4]
 have hk:w0.heap.size≤w3.heap.size+1+1:=by omega
 exact⟨R2,_,q0,hS4,h9,hk,hB6⟩
theorem LNew.next {w0 wr w4:World}{p:Prog}{k4 n:Nat}{vc vc' vt vl:Value}{y:TV}{R:Nat→Role}(hq:wr.heap[k4]?=some (.cells #[vc,vt,.int .i64 0,vl] 45 (0,0)))(hS:SysO R wr w0.heap.size vc vt vl (newTo p n) [y] [])(h4:R k4=.no)(hb:w0.heap.size≤k4)(hB:Below w0.heap.size w0 wr)(hlt:n<p.cells.length)
  (hk:Keep (fun k=>vc.ownBlock=some k) wr w4) (ho:OwnF kCell 130 w4 w0.heap.size vc' ((newTo p n).cells ++ [newCell p.cells[n]])) (hn:∀ k,vc'.ownBlock=some k→vc.ownBlock=some k∨wr.heap.size≤k):LNew w0 p k4 (n+1) vt vl y (w4.setCell ⟨k4,0,none⟩ vc'):=by
 have hkl:k4<wr.heap.size:=(Array.getElem?_eq_some_iff.1 hq).1
 obtain⟨R',hS',hR'⟩:=hS.pushC hk ho hn
 have h4':R' k4=.no:=Classical.byContradiction fun e=>by
  rcases hR' k4 e with e | e
  ·exact e h4
  ·omega
 have q:=heap_set_at (i:=0) (hk.blk hq (fun e=>by have:=hS.Rc k4 e;rw [h4] at this;cases this)) vc'
 simp only [List.setIfInBounds_toArray,List.set_cons_zero,List.set_cons_succ] at q
 have hB4:Below w0.heap.size w0 w4:=below_two hB (Nat.le_refl _) (Nat.le_refl _) (hk.below (B:=w0.heap.size) (fun k h1 h2=>by have:=(hS.c.blk k h2).1;omega) hB.size)
 refine⟨R',vc',q,?_,h4',hb,hB4.setCell (p:=⟨k4,0,none⟩) hb _⟩
 ·have:=hS'.far (p:=⟨k4,0,none⟩) h4' vc'
  have e:newTo p (n+1)={ newTo p n with cells:=(newTo p n).cells ++ [newCell p.cells[n]] }:=by unfold newTo;rw [List.take_succ_eq_append_getElem hlt,List.map_append];rfl
  rw [e]
  exact this
theorem sysNew_good (p:Prog)(P Q:Option Addr)(cp cq:Nat)(w:World)(S:Nat→Prop)(hP:Row Kd.int w S P p.cells)(hQ:Row (Kd.slice kAct) w S Q p.bodies)(hSS:∀ k,S k→k<w.heap.size)(hok:progOk p=true)(hcl:p.cells.length≤1000) :
  Calls Tryz.prog 100 #[.agg #[.slice P p.cells.length cp,.slice Q p.bodies.length cq]] w (DoPost w (fun _=>False) ⟨p.cells.map fun n=>⟨n,0,-1⟩,[newTask 0 (-1)],0,[]⟩ true):=by
 have HPQ:=Lib.hid (And.intro hP hQ)
 have HK:=Lib.hid hok
 clear hP hQ hok
 obtain⟨W,HW⟩:∃ W,W=(w.alloc (.cells #[.slice P p.cells.length cp,.slice Q p.bodies.length cq] 39)).alloc (.cells #[.slice none 0 0,.slice none 0 0,.int .i64 0,.slice none 0 0] 45):=⟨_,rfl⟩
 have hbW:Below w.heap.size w W:=by rw [HW];exact(alB w _).alloc (by simp) _
 have hz:W.heap.size=w.heap.size+1+1:=by rw [HW];simp
 have hW0:W.heap[w.heap.size]?=some (.cells #[.slice P p.cells.length cp,.slice Q p.bodies.length cq] 39 (0,0)):=by
  rw [HW];exact((alB _ _).block _ (by simp)).trans (heap_alloc_new _ _)
 have hW1:W.heap[w.heap.size+1]?=some (.cells #[.slice none 0 0,.slice none 0 0,.int .i64 0,.slice none 0 0] 45 (0,0)):=by
  rw [HW]
  have h1:=heap_alloc_new (w.alloc (.cells #[.slice P p.cells.length cp,.slice Q p.bodies.length cq] 39)) (.cells #[.slice none 0 0,.slice none 0 0,.int .i64 0,.slice none 0 0] 45 (0,0))
  simp only [World.size_alloc] at h1
  exact h1
 go_enter Tryz.func100,Tryz.ntmps100
 go_wp2_with (first | (go_at_call 66;go_must (rw [← HW];refine(specProgOk_calls p P Q cp cq W S (HPQ.out.1.belowAll hbW) (HPQ.out.2.belowAll hbW)).mono ?_;rintro e w2 ⟨rfl,hb2⟩;rw [HK.out];have hz2:=hb2.size;have HB2:=Lib.hid hb2;clear hb2)) | (go_at_call 141;go_must (refine(l11Task_calls 0 (-1) _).mono ?_;rintro e w3 ⟨v,r,o,d,u,rfl,hN,hc2⟩;have hv:=hN.ev;subst hv;obtain⟨A1,c1,rfl,_⟩:=Own.slice hN.pr;obtain⟨A2,c2,rfl,_⟩:=Own.slice hN.po;obtain⟨A3,c3,rfl,_⟩:=Own.slice hN.pd;obtain⟨A4,c4,rfl,_⟩:=Own.slice hN.pu;have hz3:=hc2.size;have HC2:=Lib.hid hc2;have HN:=Lib.hid hN;clear hc2 hN)))
 have HL0:=Lib.hid (LNew.start p HB2.out HN.out HC2.out (T:=#[.int .i64 0,.int .i64 0,.int .i64 (-1),.slice A1 3 c1,.int .i64 0,.int .i64 0,.int .i64 0,.int .i64 0,.slice A2 3 c2,.slice A3 0 c3,.slice A4 0 c4,.int .i64 0,.int .i64 0]) rfl)
 obtain⟨k4,hk4e⟩:∃ k4,k4=w3.heap.size+1+1:=⟨_,rfl⟩
 have hk4:W.heap.size≤k4:=by simp at hz3;omega
 have HW4:=Lib.hid hk4e
 rw [← hk4e] at HL0
 rw [← hk4e]
 clear hk4e HN HC2 hz3
 go_loopw [5] (fun i wr=>∃ n:Nat,n≤p.cells.length∧i=.int .i64 n∧LNew W p k4 n (.slice (some ⟨w3.heap.size,0,none⟩) 1 1) (.slice (some ⟨w3.heap.size+1,0,none⟩) 0 0) ⟨newTask 0 (-1),.slice A1 3 c1,.slice A2 3 c2,.slice A3 0 c3,.slice A4 0 c4⟩ wr) (fun i _=>p.cells.length-(intOf i).toNat)
 case atStart=>exact⟨0,Nat.zero_le _,rfl,HL0.out⟩
 case round =>
  obtain⟨n,hnl,rfl,R,vc,hq,hS,h4,hb,hB⟩:=hrel
  obtain⟨A5,c5,rfl,hc5,_⟩:=hS.c.row
  have hnc:(newTo p n).cells.length=n:=by unfold newTo;simp;omega
  rw [hnc] at hq hS
  have hzr:=hB.size
  have r0:=(hB.block w.heap.size (by omega)).trans ((HB2.out.block w.heap.size (by omega)).symm.trans ((HB2.out.block w.heap.size (by omega)).trans hW0))
  have p0:=cell_of_row _ _ 0 _ _ _ r0
  have s0:=cell_of_row _ _ 0 _ _ _ hq
  have sf:=fun i=>frozen_of_row _ _ i _ _ hq
  have hkl:k4<wr.heap.size:=(Array.getElem?_eq_some_iff.1 hq).1
  simp at p0 s0
  by_cases hlt:n<p.cells.length
  ·obtain⟨bt,ot,eT,hbt,c0,hci,hSb⟩:=int_lit ((HPQ.out.1.belowAll hbW).belowAll hB) hlt
   subst eT
   have y1:(n:Int)<p.cells.length:=by omega
   have y3:(0:Int)≤n:=by omega
   have HV:Hid (∀ k,(Value.slice A5 n c5).ownBlock=some k→W.heap.size≤k∧k<wr.heap.size∧k≠k4):=Lib.hid fun k e=>⟨(hS.c.blk k e).1,(hS.c.blk k e).2,fun e2=>by have:=hS.Rc k e;rw [e2,h4] at this;cases this⟩
   have HH:=Lib.hid (And.intro hq (And.intro hS (And.intro h4 (And.intro hb (And.intro hB (And.intro hnc hcl))))))
   clear hq hS h4 hB hnc hc5 r0 hcl HL0
   go_wp2_with fail
   refine wp_region_noPanic ?_
   refine wp_region_head 11 (fun w'=>w'.cell? ⟨k4,0,none⟩=some (.slice A5 n c5)∧w'.cell? ⟨w.heap.size,0,none⟩=some (.slice (some ⟨bt,ot,none⟩) p.cells.length cp)∧w'.cell? ⟨bt,ot+n,none⟩=some (.int .i64 p.cells[n])) (by kernel_rfl) (by kernel_rfl) (by (try dsimp only)<;>(first | (go_keep;done) | (go_split_ands;exact⟨v0,v1,v2⟩))) (fun hHeld=>?_)
   refine head_take (i:=0) (v:=_) (by kernel_rfl) rfl (by kernel_rfl) (by kernel_rfl) (by kernel_rfl) (fun _ _ _ h=>h) (Or.inl ⟨by rfl,by (intro w hSw;(try dsimp only at hSw);go_simp<;>with_reducible rfl)⟩) (by assumption) ?_
   (try simp only [q1,q2,q3,Act.put,q4,q5,q6])
   refine head_take (i:=1) (v:=_) (by kernel_rfl) rfl (by kernel_rfl) (by kernel_rfl) (by kernel_rfl) (fun _ _ _ h=>h) (Or.inl ⟨by rfl,by (intro w hSw;(try dsimp only at hSw);go_simp<;>with_reducible rfl)⟩) (by assumption) ?_
   (try simp only [q1,q2,q3,Act.put,q4,q5,q6])
   refine head_take (i:=2) (v:=_) (by kernel_rfl) rfl (by kernel_rfl) (by kernel_rfl) (by kernel_rfl) (fun _ _ _ h=>h) (Or.inl ⟨by rfl,by (intro w hSw;(try dsimp only at hSw);go_simp<;>with_reducible rfl)⟩) (by assumption) ?_
   (try simp only [q1,q2,q3,Act.put,q4,q5,q6])
   refine head_take (i:=3) (v:=_) (by kernel_rfl) rfl (by kernel_rfl) (by kernel_rfl) (by kernel_rfl) (fun _ _ _ h=>h) (Or.inl ⟨by rfl,by (intro w hSw;(try dsimp only at hSw);go_simp<;>with_reducible rfl)⟩) (by assumption) ?_
   (try simp only [q1,q2,q3,Act.put,q4,q5,q6])
   refine head_take (i:=4) (v:=_) (by kernel_rfl) rfl (by kernel_rfl) (by kernel_rfl) (by kernel_rfl) (fun _ _ _ h=>h) (Or.inl ⟨by rfl,by (intro w hSw;(try dsimp only at hSw);go_simp<;>with_reducible rfl)⟩) (by assumption) ?_
   (try simp only [q1,q2,q3,Act.put,q4,q5,q6])
   refine head_take (i:=5) (v:=_) (by kernel_rfl) rfl (by kernel_rfl) (by kernel_rfl) (by kernel_rfl) (fun _ _ _ h=>h) (Or.inl ⟨by rfl,by (intro w hSw;(try dsimp only at hSw);go_simp<;>with_reducible rfl)⟩) (by assumption) ?_
   (try simp only [q1,q2,q3,Act.put,q4,q5,q6])
   refine head_take (i:=6) (v:=_) (by kernel_rfl) rfl (by kernel_rfl) (by kernel_rfl) (by kernel_rfl) (fun _ _ _ h=>h) (Or.inl ⟨by rfl,by (intro w hSw;(try dsimp only at hSw);go_simp<;>with_reducible rfl)⟩) (by assumption) ?_
   (try simp only [q1,q2,q3,Act.put,q4,q5,q6])
   refine head_take (i:=7) (v:=_) (by kernel_rfl) rfl (by kernel_rfl) (by kernel_rfl) (by kernel_rfl) (fun _ _ _ h=>h) (Or.inl ⟨by rfl,by (intro w hSw;(try dsimp only at hSw);go_simp<;>with_reducible rfl)⟩) (by assumption) ?_
   (try simp only [q1,q2,q3,Act.put,q4,q5,q6])
   refine head_next (i:=8) rfl (by kernel_rfl) (by kernel_rfl) (fun Kq hKq=>?_)
   (try simp only [q1,q2,q3])
   refine step_hold (a:=⟨_,_⟩) ?_
   go_simp
   refine hKq.out _ _ (by (try dsimp only)<;>(first | (go_keep;done) | (go_split_ands;exact⟨v0,v1,v2⟩))) (fun hHeld=>?_)
   clear hKq Kq
   (try simp only [q1,q2,q3,Act.put,q4,q5,q6])
   refine head_next (i:=9) rfl (by kernel_rfl) (by kernel_rfl) (fun Kq hKq=>?_)
   (try simp only [q1,q2,q3])
   refine step_hold (a:=⟨_,_⟩) ?_
   (refine step_push (d:=kCell) (wr:=wr) (xs:=(newTo p n).cells) (x:=newCell p.cells[n]) plain_cell (by rfl) ((Below.refl _ wr).drew) HH.out.2.1.c (by omega) (fun _ _=>rfl) wr.heap.size rfl rfl _ _ _ (by rfl) Tryz.underlying41 _ 24 infoCell rfl (by decide) (by decide) (by rfl) (by rfl) (by have:=HH.out.2.2.2.2.2.1;have:=HH.out.2.2.2.2.2.2;omega) ?_;intro A6 c6 w6 ho6 hk6 hn6;have v0:=(hk6.cell (p:=⟨k4,0,none⟩) hkl (fun e=>(HV.out _ e).2.2 rfl)).trans s0;have v1:=(hk6.cell (p:=⟨w.heap.size,0,none⟩) (by show w.heap.size<wr.heap.size;omega) (fun e=>by have h1:W.heap.size≤w.heap.size:=(HV.out _ e).1;omega)).trans p0;have v2:=(hk6.cell (p:=⟨bt,ot+n,none⟩) hbt (fun e=>by have h1:W.heap.size≤bt:=(HV.out _ e).1;have:=hSS _ hSb;omega)).trans c0;have v3:=(hk6.frozen (p:=⟨k4,0,none⟩) hkl (fun e=>(HV.out _ e).2.2 rfl)).trans (sf 0))
   refine hKq.out _ _ (by (try dsimp only)<;>(first | (go_keep;done) | (go_split_ands;exact⟨v0,v1,v2⟩))) (fun hHeld=>?_)
   clear hKq Kq
   (try simp only [q1,q2,q3,Act.put,q4,q5,q6])
   refine head_take (i:=10) (v:=_) (by kernel_rfl) rfl (by kernel_rfl) (by kernel_rfl) (by kernel_rfl) (fun _ _ _ h=>h) (Or.inl ⟨by rfl,by (intro w hSw;(try dsimp only at hSw);go_simp<;>with_reducible rfl)⟩) (by assumption) ?_
   (try simp only [q1,q2,q3,Act.put,q4,q5,q6])
   refine head_done (by kernel_rfl) ?_
   simp only [List.toList_toArray,List.drop_succ_cons,List.drop_zero]
   go_wp2_with fail
   refine NoPanic.normal ?_
   obtain⟨hq,hS,h4,_,hB,hnc,_⟩:=HH.out
   have HL:=Lib.hid (LNew.next hq hS h4 hb hB hlt hk6 ho6 (fun k e=>(hn6 k e).imp id id))
   clear hq hS h4 hB hnc HH HV hHeld v0 v1 v2 v3 s0 sf c0 p0 hk6 ho6 hn6
   go_wp2_with fail
   go_roundw
   case rel=>exact⟨n+1,by omega,by go_num,HL.out⟩
   case measure=>simp [intOf];omega
  ·obtain rfl:n=p.cells.length:=by omega
   have s1:=cell_of_row _ _ 1 _ _ _ hq
   have s2:=cell_of_row _ _ 2 _ _ _ hq
   have s3:=cell_of_row _ _ 3 _ _ _ hq
   have r2:=(hB.block (w.heap.size+1) (by omega)).trans ((HB2.out.block (w.heap.size+1) (by omega)).symm.trans ((HB2.out.block (w.heap.size+1) (by omega)).trans hW1))
   have t0:=cell_of_row _ _ 0 _ _ _ r2
   have t1:=cell_of_row _ _ 1 _ _ _ r2
   have t2:=cell_of_row _ _ 2 _ _ _ r2
   have t3:=cell_of_row _ _ 3 _ _ _ r2
   have tf:=fun i=>frozen_of_row _ _ i _ _ r2
   simp at s1 s2 s3 t0 t1 t2 t3
   have HH:=Lib.hid (And.intro hS (And.intro hB h4))
   have HN:=Lib.hid hnc
   clear hq hS h4 hB hnc r0 r2 HL0 hc5
   go_wp2
   rw [← newTo_all]
   have HB3:=Lib.hid <| below_two hbW (Nat.le_refl _) (Nat.le_refl _) (below_two (w:=W) (w1:=W) (Below.refl _ _) hbW.size hbW.size HH.out.2.1)
   refine bodyPost_ret (v:=.tuple #[.agg #[.slice A5 p.cells.length c5,.slice (some ⟨w3.heap.size,0,none⟩) 1 1,.int .i64 0,.slice (some ⟨w3.heap.size+1,0,none⟩) 0 0],.bool true]) (by simp [results,Tryz.results100,go_sem, *]) rfl ⟨A5,_,_,c5,1,0,by rw [HN.out];rfl,?_,?_⟩
   ·obtain⟨hS,hB,h4⟩:=HH.out
    obtain⟨A7,B7,C7,ca7,cb7,cc7,e1,e2,e3,_,_,_,hSR⟩:=hS.read
    injection e1 with e1 _ _
    injection e2 with e2 _ _
    injection e3 with e3 _ _
    subst e1;subst e2;subst e3
    refine(hSR.step (fun q h1 h2=>?_)).mono (fun q h=>⟨by simp;exact hS.lt q h,.inr (by have:=hS.ge q h;omega)⟩)
    have h3:=hS.ge q h1
    iterate 4 (refine(Below.heap_setCell _ _ _ _ (fun e=>by simp at e;omega)).trans ?_)
    rfl
   ·exact(((HB3.out.setCell (p:=⟨w.heap.size+1,0,none⟩) (by simp;try omega) _).setCell (p:=⟨w.heap.size+1,1,none⟩) (by simp;try omega) _).setCell (p:=⟨w.heap.size+1,2,none⟩) (by simp;try omega) _).setCell (p:=⟨w.heap.size+1,3,none⟩) (by simp;try omega) _
end Go.Proofs.YtjacjafmimgfcaaGreat
namespace Go.Proofs.YtjacjafmimgfcaaGreat
open Go.RowKit
attribute [local go_sem ↓] Go.wp_at_zero Go.wp_at_succ
def LSys (w0:World) (b1:Nat) (Y:Sys) (wr:World):Prop :=
 ∃ A B C ca cb cc,wr.heap[b1]?=some (.cells #[.slice A Y.cells.length ca,.slice B Y.tasks.length cb,.int .i64 Y.clock,.slice C Y.log.length cc] 45 (0,0))∧SysR wr (fun k=>k<wr.heap.size∧w0.heap.size≤k) Y A B C∧Keep (fun k=>k=b1) w0 wr
theorem LSys.store {w0 wr w2:World}{b1:Nat}(hb1:b1<w0.heap.size){x0 x1 x2 x3:Value}(hq:wr.heap[b1]?=some (.cells #[x0,x1,x2,x3] 45 (0,0)))(hk:Keep (fun k=>k=b1) w0 wr)(hb:Below wr.heap.size wr w2){A B C:Option Addr}(ca cb cc:Nat){s':Sys}
  (hR:SysR w2 (fun k=>k<w2.heap.size∧((k<wr.heap.size∧w0.heap.size≤k)∨wr.heap.size≤k)) s' A B C) :
  LSys w0 b1 s' ((((w2.setCell ⟨b1,0,none⟩ (.slice A s'.cells.length ca)).setCell ⟨b1,1,none⟩ (.slice B s'.tasks.length cb)).setCell ⟨b1,2,none⟩ (.int .i64 s'.clock)).setCell ⟨b1,3,none⟩ (.slice C s'.log.length cc)):=by
 have hbl:b1<wr.heap.size:=(Array.getElem?_eq_some_iff.1 hq).1
 have q:=heap_set_at (i:=3) (heap_set_at (i:=2) (heap_set_at (i:=1) (heap_set_at (i:=0) ((hb.block b1 hbl).trans hq) (.slice A s'.cells.length ca)) (.slice B s'.tasks.length cb)) (.int .i64 s'.clock)) (.slice C s'.log.length cc)
 simp only [List.setIfInBounds_toArray,List.set_cons_zero,List.set_cons_succ] at q
 have h0:=hk.size
 refine⟨A,B,C,ca,cb,cc,q,?_,?_⟩
 ·refine(hR.step (fun k h1 h2=>?_)).mono (fun k h=>by have:=h.2;simp;omega)
  iterate 4 (refine(Below.heap_setCell _ _ _ _ (fun e=>by have h3:=h1.2;simp at e;omega)).trans ?_)
  rfl
 ·have h1:Keep (fun k=>k=b1) w0 w2:=hk.trans (Keep.of_belowAll _ hb)
  exact(((h1.setCell (p:=⟨b1,0,none⟩) (fun _=>rfl) _).setCell (p:=⟨b1,1,none⟩) (fun _=>rfl) _).setCell (p:=⟨b1,2,none⟩) (fun _=>rfl) _).setCell (p:=⟨b1,3,none⟩) (fun _=>rfl) _
theorem LSys.mono {w0 wr w':World}{b1:Nat}{Y:Sys}(h:LSys w0 b1 Y wr)(hb:Below wr.heap.size wr w'):LSys w0 b1 Y w':=by
 obtain⟨A,B,C,ca,cb,cc,hq,hR,hk⟩:=h
 exact⟨A,B,C,ca,cb,cc,(hb.block b1 (Array.getElem?_eq_some_iff.1 hq).1).trans hq,(hR.below hb).mono fun k hk=>⟨Nat.lt_of_lt_of_le hk.1 hb.size,hk.2⟩,hk.trans (Keep.of_belowAll _ hb)⟩
theorem l11Do_is (p:Prog)(s:Sys)(k:Int)(P Q A B C:Option Addr)(cp cq ca cb cc:Nat)(w:World)(S SQ:Nat→Prop)(hQ:Row (Kd.slice kAct) w SQ Q p.bodies)(hR:SysR w S s A B C)(hSS:∀ k,S k→k<w.heap.size)(hSQ:∀ k,SQ k→k<w.heap.size)
  (hI:SInv p s) (hlg:s.log.length≤1000000) (hn:s.tasks.length≤1000000) (hm:mass s≤900000000) {s':Sys} {did:Bool} (h1:(doS p s k).getD s=s') (h2:(doS p s k).isSome=did) :
  Calls Tryz.prog 104 #[.agg #[.slice P p.cells.length cp,.slice Q p.bodies.length cq],.agg #[.slice A s.cells.length ca,.slice B s.tasks.length cb,.int .i64 s.clock,.slice C s.log.length cc],.int .i64 k] w (DoPost w S s' did):=by
 subst h1;subst h2
 exact l11Do_calls p s k P Q A B C cp cq ca cb cc w S SQ hQ hR hSS hSQ hI hlg hn hm
def bitOf:Value→Nat
 | .bool true=>1
 | _=>0
structure MidR (p:Prog) (R:Sys × Nat × Bool) (m left0:Nat) (Y:Sys) (n left:Nat) (b:Bool):Prop where
 r:InRound p R Y n left b
 b:left+(if b then 1 else 0)≤left0
 l:left0≤m
 o:RunOk p Y (7+2*(m-left)) (100007+4*(m-left))
theorem MidR.yes {p:Prog}{R:Sys × Nat × Bool}{m left0 n left:Nat}{Y Z:Sys}{b:Bool}(h:MidR p R m left0 Y n left b)(hi:n<Y.tasks.length)(hl:0<left)(hd:doS p Y n=some Z):MidR p R m left0 Z (n+1) (left-1) true:=by
 have h1:=doS_grow h.o.inv n
 have h2:=h.o.more (d:=m-(left-1)) n (by have:=h.b;have:=h.l;omega)
 rw [hd] at h1 h2
 exact⟨h.r.yes hi hl hd h1,by have:=h.b;rw [if_pos rfl];omega,h.l,h2⟩
theorem MidR.no {p:Prog}{R:Sys × Nat × Bool}{m left0 n left:Nat}{Y:Sys}{b:Bool}(h:MidR p R m left0 Y n left b)(hi:n<Y.tasks.length)(hl:0<left)(hd:doS p Y n=none):MidR p R m left0 Y (n+1) left b:=⟨h.r.no hi hl hd,h.b,h.l,h.o⟩
theorem sysRest_good (p:Prog)(s:Sys)(m:Nat)(P Q A B C:Option Addr)(cp cq ca cb cc:Nat)(w:World)(S:Nat→Prop)(hP:Row Kd.int w S P p.cells)(hQ:Row (Kd.slice kAct) w S Q p.bodies)(hR:SysR w S s A B C)(hSS:∀ k,S k→k<w.heap.size)
  (hok:sysOk p s=true) (hm:m≤2000) (hlg:s.log.length≤100000) :
  Calls Tryz.prog 62 #[.agg #[.slice P p.cells.length cp,.slice Q p.bodies.length cq],.agg #[.slice A s.cells.length ca,.slice B s.tasks.length cb,.int .i64 s.clock,.slice C s.log.length cc],.int .i64 m] w (DoPost w S (restS p (m+1) s m) true):=by
 have HR:=Lib.hid hR
 have HPQ:=Lib.hid (And.intro hP hQ)
 have HO:=Lib.hid (RunOk.start hok hlg)
 have HK:=Lib.hid hok
 have HIN:Hid (inR (m:Int) 0 2000=true):=Lib.hid (by simp [inR];omega)
 clear hR hP hQ hok
 obtain⟨W,HW⟩:∃ W,W=((w.alloc (.cells #[.slice P p.cells.length cp,.slice Q p.bodies.length cq] 39)).alloc (.cells #[.slice A s.cells.length ca,.slice B s.tasks.length cb,.int .i64 s.clock,.slice C s.log.length cc] 45)).alloc (.cells #[.slice none 0 0,.slice none 0 0,.int .i64 0,.slice none 0 0] 45):=⟨_,rfl⟩
 have hbW:Below w.heap.size w W:=by rw [HW];exact((alB w _).alloc (by simp) _).alloc (by simp;try omega) _
 have hz:W.heap.size=w.heap.size+1+1+1:=by rw [HW];simp
 have hW0:W.heap[w.heap.size]?=some (.cells #[.slice P p.cells.length cp,.slice Q p.bodies.length cq] 39 (0,0)):=by
  rw [HW];exact((alB _ _).block _ (by simp;try omega)).trans (((alB _ _).block _ (by simp)).trans (heap_alloc_new _ _))
 have hW1:W.heap[w.heap.size+1]?=some (.cells #[.slice A s.cells.length ca,.slice B s.tasks.length cb,.int .i64 s.clock,.slice C s.log.length cc] 45 (0,0)):=by
  rw [HW]
  have h1:=heap_alloc_new (w.alloc (.cells #[.slice P p.cells.length cp,.slice Q p.bodies.length cq] 39)) (.cells #[.slice A s.cells.length ca,.slice B s.tasks.length cb,.int .i64 s.clock,.slice C s.log.length cc] 45 (0,0))
  simp only [World.size_alloc] at h1
  exact((alB _ _).block _ (by simp)).trans h1
 have hW2:W.heap[w.heap.size+1+1]?=some (.cells #[.slice none 0 0,.slice none 0 0,.int .i64 0,.slice none 0 0] 45 (0,0)):=by
  rw [HW]
  have h1:=heap_alloc_new ((w.alloc (.cells #[.slice P p.cells.length cp,.slice Q p.bodies.length cq] 39)).alloc (.cells #[.slice A s.cells.length ca,.slice B s.tasks.length cb,.int .i64 s.clock,.slice C s.log.length cc] 45)) (.cells #[.slice none 0 0,.slice none 0 0,.int .i64 0,.slice none 0 0] 45 (0,0))
  simp only [World.size_alloc] at h1
  exact h1
 go_enter Tryz.func62,Tryz.ntmps62
 go_wp2_with (first | (go_at_call 30;go_must (rw [← HW];refine(specSysOk_calls p s P Q A B C cp cq ca cb cc W S (HPQ.out.1.belowAll hbW) (HPQ.out.2.belowAll hbW) (HR.out.below hbW)).mono ?_;rintro e w2 ⟨rfl,hb2⟩;rw [HK.out];have hz2:=hb2.size;have q1:=(hb2.block (w.heap.size+1) (by omega)).trans hW1;have i0:=cell_of_row _ _ 0 _ _ _ q1;have i1:=cell_of_row _ _ 1 _ _ _ q1;have i2:=cell_of_row _ _ 2 _ _ _ q1;have i3:=cell_of_row _ _ 3 _ _ _ q1;simp at i0 i1 i2 i3;have hbw2:=below_then hbW hbW.size hb2)) | (go_at_call 67;refine(l6In_calls _ _ _ _).mono ?_;rintro e w' ⟨rfl,rfl⟩;rw [HIN.out]) | (go_at_call 103;go_must (refine(l11Copy_calls s A B C ca cb cc w2 S (HR.out.below hbw2) (fun k h=>Nat.lt_of_lt_of_le (hSS k h) hbw2.size) HO.out.inv.few.c (by have:=HO.out.tasks;omega) (by omega) HO.out.inv.few.t HO.out.inv.few.l).mono ?_;rintro e w3 ⟨R,vc,vt,vl,ts,es,rfl,hS3,hb3⟩;obtain⟨A3,B3,C3,ca3,cb3,cc3,e1,e2,e3,_,_,_,hSR⟩:=hS3.read;subst e1;subst e2;subst e3;have hz3:=hb3.size;clear i0 i1 i2 i3;have r1:=(hb3.block (w.heap.size+1) (by omega)).trans q1;have i0:=cell_of_row _ _ 0 _ _ _ r1;have i1:=cell_of_row _ _ 1 _ _ _ r1;have i2:=cell_of_row _ _ 2 _ _ _ r1;have i3:=cell_of_row _ _ 3 _ _ _ r1;have jf:=fun i=>frozen_of_row _ _ i _ _ r1;simp at i0 i1 i2 i3)))
 have HL0:=Lib.hid (LSys.store (by omega) q1 (Keep.of_belowAll _ hb2) hb3 ca3 cb3 cc3 (hSR.mono (fun k hk=>⟨hS3.lt k hk,.inr (hS3.ge k hk)⟩)))
 clear hSR hS3 q1 r1 i0 i1 i2 i3 jf hb2 hb3 hbw2 HR
 go_loopw [2,8,9,10,11] (fun mo so i xo ok wr=>∃ (left:Nat) (b:Bool) (Y:Sys),mo=.int .i64 left∧so=.bool b∧left≤m∧OutR p (restS p (m+1) s m) Y left b∧RunOk p Y (7+2*(m-left)) (100007+4*(m-left))∧LSys W (w.heap.size+1) Y wr) (fun mo so i xo ok _=>(intOf mo).toNat+bitOf so)
 case atStart=>exact⟨m,true,s,rfl,rfl,Nat.le_refl _,OutR.start p s m,by rw [Nat.sub_self];exact HO.out,HL0.out⟩
 case round =>
  clear HL0
  obtain⟨left,b,Y,rfl,rfl,hlm,hOut,hRO,hL⟩:=hrel
  by_cases hgo:b=true∧0<left
  ·obtain⟨rfl,hl0⟩:=hgo
   obtain⟨wi,rfl⟩:∃ w0:World,w0=wr:=⟨_,rfl⟩
   have y0:(0:Int)<left:=by omega
   have HH:=Lib.hid (And.intro hOut (And.intro hRO (And.intro hL (And.intro hlm hl0))))
   clear hOut hRO hL hlm HO
   go_wp2_with fail
   go_loopw [2,8,9,10,11] (fun mo so i xo ok wr=>∃ (l2:Nat) (b2:Bool) (Z:Sys) (n:Nat),mo=.int .i64 l2∧so=.bool b2∧i=.int .i64 n∧MidR p (roundS p (Y.tasks.length+3*left) Y 0 left false) m left Z n l2 b2∧LSys W (w.heap.size+1) Z wr) (fun mo so i xo ok _=>5000-(intOf i).toNat)
   case atStart=>exact⟨left,false,Y,0,rfl,rfl,rfl,⟨InRound.start p Y left,by simp,HH.out.2.2.2.1,HH.out.2.1⟩,HH.out.2.2.1⟩
   case round =>
    obtain⟨l2,b2,Z,n,rfl,rfl,rfl,hM,hL⟩:=hrel
    obtain⟨A1,B1,C1,ca1,cb1,cc1,hq,hSr,hKp⟩:=hL
    have s1:=cell_of_row _ _ 1 _ _ _ hq
    simp at s1
    by_cases hc:n<Z.tasks.length∧0<l2
    ·obtain⟨hn,hl⟩:=hc
     obtain⟨l3,rfl⟩:∃ l3,l2=l3+1:=⟨l2-1,by omega⟩
     have hN1:=hM.o.tasks
     have hN2:=hM.o.mass
     have hN3:=hM.o.log
     have hlm:=hM.l
     have hlb:l3+1≤left:=Nat.le_trans (Nat.le_add_right _ _) hM.b
     have hn':(n:Int)<Z.tasks.length:=by omega
     have hl':(0:Int)<((l3+1:Nat):Int):=by omega
     have r0:=hKp.blk hW0 (by omega)
     have hzr:=hKp.size
     have p0:=cell_of_row _ _ 0 _ _ _ r0
     have p1:=cell_of_row _ _ 1 _ _ _ r0
     have s0:=cell_of_row _ _ 0 _ _ _ hq
     have s2:=cell_of_row _ _ 2 _ _ _ hq
     have s3:=cell_of_row _ _ 3 _ _ _ hq
     simp at p0 p1 s0 s2 s3
     have HQr:=Lib.hid ((HPQ.out.2.belowAll hbW).keep hKp (fun k h1 _ h2=>by have:=hSS k h1;omega))
     have HS:=Lib.hid (And.intro hq (And.intro hSr hKp))
     have HM:=Lib.hid (And.intro hM (And.intro hn hl))
     clear hq hSr hKp r0 hW0 hW1 hW2 hM hl
     cases hd:doS p Z n with
     | none =>
      have HD:=Lib.hid hd
      clear hd
      go_wp2_with (go_at_call 104;go_must (refine(l11Do_is p Z n P Q A1 B1 C1 cp cq ca1 cb1 cc1 _ (fun k=>k<wr.heap.size∧W.heap.size≤k) S HQr.out HS.out.2.1 (fun k h=>h.1) (fun k h=>by have:=hSS k h;show k<wr.heap.size;omega) HM.out.1.o.inv (by omega) (by omega) (by omega) (s':=Z) (did:=false) (by rw [HD.out];rfl) (by rw [HD.out];rfl)).mono ?_;rintro e w4 ⟨A2,B2,C2,ca2,cb2,cc2,rfl,hS2,hb2⟩;have hz4:=hb2.size;have hlt4:w.heap.size+1<w4.heap.size:=(by omega);have HL4:=Lib.hid hb2;clear hS2 hb2))
      have HL5:=Lib.hid (LSys.mono ⟨A1,B1,C1,ca1,cb1,cc1,HS.out.1,HS.out.2.1,HS.out.2.2⟩ (HL4.out.alloc HL4.out.size (.cells #[.slice A2 Z.cells.length ca2,.slice B2 Z.tasks.length cb2,.int .i64 Z.clock,.slice C2 Z.log.length cc2] 45)))
      clear HS HL4 HQr s0 s1 s2 s3 p0 p1
      go_roundw
      case rel=>exact⟨l3+1,b2,Z,n+1,rfl,rfl,by go_num,HM.out.1.no HM.out.2.1 HM.out.2.2 HD.out,HL5.out⟩
      case measure=>have:=HM.out.2.1;simp [intOf];omega
     | some Z' =>
      have HD:=Lib.hid hd
      clear hd
      go_wp2_with (go_at_call 104;go_must (refine(l11Do_is p Z n P Q A1 B1 C1 cp cq ca1 cb1 cc1 _ (fun k=>k<wr.heap.size∧W.heap.size≤k) S HQr.out HS.out.2.1 (fun k h=>h.1) (fun k h=>by have:=hSS k h;show k<wr.heap.size;omega) HM.out.1.o.inv (by omega) (by omega) (by omega) (s':=Z') (did:=true) (by rw [HD.out];rfl) (by rw [HD.out];rfl)).mono ?_;rintro e w4 ⟨A2,B2,C2,ca2,cb2,cc2,rfl,hS2,hb2⟩;have hz4:=hb2.size;have hlt4:w.heap.size+1<w4.heap.size:=(by omega);have q4:=(hb2.block (w.heap.size+1) (by have:=(Array.getElem?_eq_some_iff.1 HS.out.1).1;omega)).trans HS.out.1;have i0:=cell_of_row _ _ 0 _ _ _ q4;have i1:=cell_of_row _ _ 1 _ _ _ q4;have i2:=cell_of_row _ _ 2 _ _ _ q4;have i3:=cell_of_row _ _ 3 _ _ _ q4;have jf:=fun i=>frozen_of_row _ _ i _ _ q4;simp at i0 i1 i2 i3;clear q4;have HL4:=Lib.hid (And.intro hS2 hb2);clear hS2 hb2))
      have HL5:=Lib.hid (LSys.mono (LSys.store (w0:=W) (wr:=wr) (w2:=w4) (b1:=w.heap.size+1) (by omega) HS.out.1 HS.out.2.2 HL4.out.2 ca2 cb2 cc2 HL4.out.1) (alB _ (.cells #[.slice A2 Z'.cells.length ca2,.slice B2 Z'.tasks.length cb2,.int .i64 Z'.clock,.slice C2 Z'.log.length cc2] 45)))
      clear HS HL4 HQr s0 s1 s2 s3 p0 p1 i0 i1 i2 i3 jf
      go_roundw
      case rel=>exact⟨l3,true,Z',n+1,by go_num,rfl,by go_num,HM.out.1.yes HM.out.2.1 HM.out.2.2 HD.out,HL5.out⟩
      case measure=>have:=HM.out.2.1;simp [intOf];omega
    ·have e:=hM.r.fin hc
     have h9:=OutR.next HH.out.1 HH.out.2.2.2.2 rfl (by rw [e];exact hM.b)
     rw [e] at h9
     have HB:=hM.b
     have HX:=Lib.hid (And.intro h9 (And.intro hM (And.intro (show LSys W (w.heap.size+1) Z wr from ⟨A1,B1,C1,ca1,cb1,cc1,hq,hSr,hKp⟩) HB)))
     clear h9 e hM hq hSr hKp HB
     by_cases hn:n<Z.tasks.length
     ·obtain rfl:l2=0:=by omega
      have hn':(n:Int)<Z.tasks.length:=by omega
      clear hc hn
      go_wp2
      exact⟨⟨0,b2,Z,rfl,rfl,Nat.zero_le _,HX.out.1,HX.out.2.1.o,HX.out.2.2.1⟩,by have:=HX.out.2.2.2;have:=HH.out.2.2.2.2;cases b2<;>simp_all [intOf,bitOf]<;>omega⟩
     ·have hn':¬ ((n:Int)<Z.tasks.length):=by omega
      clear hc hn
      go_wp2
      exact⟨⟨l2,b2,Z,rfl,rfl,by have:=HX.out.2.1.l;have:=HX.out.2.2.2;omega,HX.out.1,HX.out.2.1.o,HX.out.2.2.1⟩,by have:=HX.out.2.2.2;cases b2<;>simp_all [intOf,bitOf]<;>omega⟩
  ·have hT:=hOut.fin hgo
   have HF:=Lib.hid hT
   obtain⟨A1,B1,C1,ca1,cb1,cc1,hq,hSr,hKp⟩:=hL
   have r2:=hKp.blk hW2 (by omega)
   have s0:=cell_of_row _ _ 0 _ _ _ hq
   have s1:=cell_of_row _ _ 1 _ _ _ hq
   have s2:=cell_of_row _ _ 2 _ _ _ hq
   have s3:=cell_of_row _ _ 3 _ _ _ hq
   simp at s0 s1 s2 s3
   have HG:=Lib.hid hgo
   clear hT hgo
   cases b with
   | false =>
    have t0:=cell_of_row _ _ 0 _ _ _ r2
    have t1:=cell_of_row _ _ 1 _ _ _ r2
    have t2:=cell_of_row _ _ 2 _ _ _ r2
    have t3:=cell_of_row _ _ 3 _ _ _ r2
    have tf:=fun i=>frozen_of_row _ _ i _ _ r2
    simp at t0 t1 t2 t3
    have HH:=Lib.hid (And.intro hSr hKp)
    clear hSr hKp hq r2 hW0 hW1 hW2 hOut hRO HO HPQ HG
    go_wp2
    rw [← HF.out]
    have hb:=below_two hbW (Nat.le_refl _) (Nat.le_refl _) (HH.out.2.below (B:=w.heap.size) (fun k h e=>by omega) hbW.size)
    refine bodyPost_ret (v:=.tuple #[.agg #[.slice A1 Y.cells.length ca1,.slice B1 Y.tasks.length cb1,.int .i64 Y.clock,.slice C1 Y.log.length cc1],.bool true]) (by simp [results,Tryz.results62,go_sem, *]) rfl ⟨A1,B1,C1,ca1,cb1,cc1,rfl,?_,?_⟩
    ·refine(HH.out.1.step (fun q h1 h2=>?_)).mono (fun q h=>⟨by simp;exact h.1,.inr (by have:=h.2;omega)⟩)
     iterate 4 (refine(Below.heap_setCell _ _ _ _ (fun e=>by have h3:=h1.2;simp at e;omega)).trans ?_)
     rfl
    ·exact(((hb.setCell (p:=⟨w.heap.size+1+1,0,none⟩) (by simp;try omega) _).setCell (p:=⟨w.heap.size+1+1,1,none⟩) (by simp;try omega) _).setCell (p:=⟨w.heap.size+1+1,2,none⟩) (by simp;try omega) _).setCell (p:=⟨w.heap.size+1+1,3,none⟩) (by simp;try omega) _
   | true =>
    obtain rfl:left=0:=by have:=HG.out;simp at this;exact this
    have t0:=cell_of_row _ _ 0 _ _ _ r2
    have t1:=cell_of_row _ _ 1 _ _ _ r2
    have t2:=cell_of_row _ _ 2 _ _ _ r2
    have t3:=cell_of_row _ _ 3 _ _ _ r2
    have tf:=fun i=>frozen_of_row _ _ i _ _ r2
    simp at t0 t1 t2 t3
    have HH:=Lib.hid (And.intro hSr hKp)
    clear hSr hKp hq r2 hW0 hW1 hW2 hOut hRO HO HPQ HG
    go_wp2
    rw [← HF.out]
    have hb:=below_two hbW (Nat.le_refl _) (Nat.le_refl _) (HH.out.2.below (B:=w.heap.size) (fun k h e=>by omega) hbW.size)
    refine bodyPost_ret (v:=.tuple #[.agg #[.slice A1 Y.cells.length ca1,.slice B1 Y.tasks.length cb1,.int .i64 Y.clock,.slice C1 Y.log.length cc1],.bool true]) (by simp [results,Tryz.results62,go_sem, *]) rfl ⟨A1,B1,C1,ca1,cb1,cc1,rfl,?_,?_⟩
    ·refine(HH.out.1.step (fun q h1 h2=>?_)).mono (fun q h=>⟨by simp;exact h.1,.inr (by have:=h.2;omega)⟩)
     iterate 4 (refine(Below.heap_setCell _ _ _ _ (fun e=>by have h3:=h1.2;simp at e;omega)).trans ?_)
     rfl
    ·exact(((hb.setCell (p:=⟨w.heap.size+1+1,0,none⟩) (by simp;try omega) _).setCell (p:=⟨w.heap.size+1+1,1,none⟩) (by simp;try omega) _).setCell (p:=⟨w.heap.size+1+1,2,none⟩) (by simp;try omega) _).setCell (p:=⟨w.heap.size+1+1,3,none⟩) (by simp;try omega) _
end Go.Proofs.YtjacjafmimgfcaaGreat
