/- The reference: rounds that are refused.; Draws: a program, and a system of it that ran some turns. -/
import Derived.Deep.RegionHeld3
import Derived.Deep.RegionLaw
import Derived.Deep.DrawnRows
import Derived.Test.YtjacjafmimgfcaaGreatWan
import Derived.Test.YtjacjafmimgfcaaGreatWbf
import Derived.Test.YtjacjafmimgfcaaGreatWbi
set_option maxHeartbeats 4000000
set_option maxRecDepth 100000
set_option linter.unusedVariables false
set_option linter.unusedSimpArgs false
namespace Go.Proofs.YtjacjafmimgfcaaGreat
open Go.RowKit
attribute [local go_sem ↓] Go.wp_at_zero Go.wp_at_succ
theorem sysRest_bad (p:Prog)(s:Sys)(m:Int)(P Q A B C:Option Addr)(cp cq ca cb cc:Nat)(w:World)(S:Nat→Prop)(hP:Row Kd.int w S P p.cells)(hQ:Row (Kd.slice kAct) w S Q p.bodies)(hR:SysR w S s A B C)(hSS:∀ k,S k→k<w.heap.size)
  (hbad:sysOk p s=false∨inR m 0 2000=false) :
  Calls Tryz.prog 62 #[.agg #[.slice P p.cells.length cp,.slice Q p.bodies.length cq],.agg #[.slice A s.cells.length ca,.slice B s.tasks.length cb,.int .i64 s.clock,.slice C s.log.length cc],(.int .i64 m)] w fun e w'=>e=.returned (.tuple #[.agg #[.slice none 0 0,.slice none 0 0,.int .i64 0,.slice none 0 0],.bool false])∧Below w.heap.size w w':=by
 have HR:=Lib.hid hR
 have HPQ:=Lib.hid (And.intro hP hQ)
 clear hR hP hQ
 obtain⟨W,HW⟩:∃ W,W=((w.alloc (.cells #[.slice P p.cells.length cp,.slice Q p.bodies.length cq] 39)).alloc (.cells #[.slice A s.cells.length ca,.slice B s.tasks.length cb,.int .i64 s.clock,.slice C s.log.length cc] 45)).alloc (.cells #[.slice none 0 0,.slice none 0 0,.int .i64 0,.slice none 0 0] 45):=⟨_,rfl⟩
 have hbW:Below w.heap.size w W:=by rw [HW];exact((alB w _).alloc (by simp) _).alloc (by simp;try omega) _
 have hz:W.heap.size=w.heap.size+1+1+1:=by rw [HW];simp
 have hW0:W.heap[w.heap.size]?=some (.cells #[.slice P p.cells.length cp,.slice Q p.bodies.length cq] 39 (0,0)):=by
  rw [HW];exact((alB _ _).block _ (by simp;try omega)).trans (((alB _ _).block _ (by simp)).trans (heap_alloc_new _ _))
 have hW1:W.heap[w.heap.size+1]?=some (.cells #[.slice A s.cells.length ca,.slice B s.tasks.length cb,.int .i64 s.clock,.slice C s.log.length cc] 45 (0,0)):=by
  rw [HW]
  have h1:=heap_alloc_new (w.alloc (.cells #[.slice P p.cells.length cp,.slice Q p.bodies.length cq] 39)) (.cells #[.slice A s.cells.length ca,.slice B s.tasks.length cb,.int .i64 s.clock,.slice C s.log.length cc] 45 (0,0))
  simp only [World.size_alloc] at h1
  exact((alB _ _).block _ (by simp)).trans h1
 have hW2:W.heap[w.heap.size+1+1]?=some (.cells #[.slice none 0 0,.slice none 0 0,.int .i64 0,.slice none 0 0] 45 (0,0)):=by
  rw [HW]
  have h1:=heap_alloc_new ((w.alloc (.cells #[.slice P p.cells.length cp,.slice Q p.bodies.length cq] 39)).alloc (.cells #[.slice A s.cells.length ca,.slice B s.tasks.length cb,.int .i64 s.clock,.slice C s.log.length cc] 45)) (.cells #[.slice none 0 0,.slice none 0 0,.int .i64 0,.slice none 0 0] 45 (0,0))
  simp only [World.size_alloc] at h1
  exact h1
 by_cases hok:sysOk p s=false
 ·have HK:=Lib.hid hok
  clear hbad hok
  go_enter Tryz.func62,Tryz.ntmps62
  go_wp2_with (go_at_call 30;go_must (rw [← HW];refine(specSysOk_calls p s P Q A B C cp cq ca cb cc W S (HPQ.out.1.belowAll hbW) (HPQ.out.2.belowAll hbW) (HR.out.below hbW)).mono ?_;rintro e w2 ⟨rfl,hb2⟩;rw [HK.out];have hz2:=hb2.size;have q2:=(hb2.block (w.heap.size+1+1) (by omega)).trans hW2;have i0:=cell_of_row _ _ 0 _ _ _ q2;have i1:=cell_of_row _ _ 1 _ _ _ q2;have i2:=cell_of_row _ _ 2 _ _ _ q2;have i3:=cell_of_row _ _ 3 _ _ _ q2;have jf:=fun i=>frozen_of_row _ _ i _ _ q2;simp at i0 i1 i2 i3;have hbw2:=below_then hbW hbW.size hb2))
  refine bodyPost_ret (v:=.tuple #[.agg #[.slice none 0 0,.slice none 0 0,.int .i64 0,.slice none 0 0],.bool false]) (by simp [results,Tryz.results62,go_sem, *]) rfl ⟨rfl,?_⟩
  exact(by repeat' (first | exact hbw2 | (refine Below.setCell ?_ (by simp;try omega) _)))
 ·have hok:sysOk p s=true:=by simpa using hok
  have HIN:=Lib.hid (hbad.elim (fun h=>by rw [hok] at h;cases h) id:inR m 0 2000=false)
  have HK:=Lib.hid hok
  clear hbad hok
  go_enter Tryz.func62,Tryz.ntmps62
  go_wp2_with (first | (go_at_call 30;go_must (rw [← HW];refine(specSysOk_calls p s P Q A B C cp cq ca cb cc W S (HPQ.out.1.belowAll hbW) (HPQ.out.2.belowAll hbW) (HR.out.below hbW)).mono ?_;rintro e w2 ⟨rfl,hb2⟩;rw [HK.out];have hz2:=hb2.size;have q2:=(hb2.block (w.heap.size+1+1) (by omega)).trans hW2;have i0:=cell_of_row _ _ 0 _ _ _ q2;have i1:=cell_of_row _ _ 1 _ _ _ q2;have i2:=cell_of_row _ _ 2 _ _ _ q2;have i3:=cell_of_row _ _ 3 _ _ _ q2;have jf:=fun i=>frozen_of_row _ _ i _ _ q2;simp at i0 i1 i2 i3;have hbw2:=below_then hbW hbW.size hb2)) | (go_at_call 67;refine(l6In_calls _ _ _ _).mono ?_;rintro e w' ⟨rfl,rfl⟩;rw [HIN.out]))
  refine bodyPost_ret (v:=.tuple #[.agg #[.slice none 0 0,.slice none 0 0,.int .i64 0,.slice none 0 0],.bool false]) (by simp [results,Tryz.results62,go_sem, *]) rfl ⟨rfl,?_⟩
  exact(by repeat' (first | exact hbw2 | (refine Below.setCell ?_ (by simp;try omega) _)))
end Go.Proofs.YtjacjafmimgfcaaGreat
namespace Go.Proofs.YtjacjafmimgfcaaGreat
open Go.RowKit
attribute [local go_sem ↓] Go.wp_at_zero Go.wp_at_succ
def newSys (B:Nat) (v:Value) (w':World):Prop :=
 ∃ (p:Prog) (s:Sys) (P Q A B' C:Option Addr) (cp cq ca cb cc:Nat),v=.tuple #[.agg #[.slice P p.cells.length cp,.slice Q p.bodies.length cq],.agg #[.slice A s.cells.length ca,.slice B' s.tasks.length cb,.int .i64 s.clock,.slice C s.log.length cc]] ∧
  Row Kd.int w' (fun k=>B≤k∧k<w'.heap.size) P p.cells∧Row (Kd.slice kAct) w' (fun k=>B≤k∧k<w'.heap.size) Q p.bodies∧SysR w' (fun k=>B≤k∧k<w'.heap.size) s A B' C∧RunOk p s 1000 2000
theorem drew_of {R:Value→World→Prop}{w w':World}{g:Nat}{S:Nat→Prop}{A:Option Addr}{c:Nat}{bs:List Int}{f:Nat}{v:Value}(h:R v w'∧RdAt w' g S A c bs f∧Keep (fun k=>k=g) w w'):Drew R w g S A c bs f (.returned v) w':=⟨v,rfl,h⟩
theorem l71Turns_int (most:Int)(h0:0≤most)(h1:most≤200)(w:World)(g:Nat)(S:Nat→Prop)(A:Option Addr)(c:Nat)(bs:List Int)(f:Nat)(hR:RdAt w g S A c bs (f+600)) :
  Calls Tryz.prog 102 #[.pointer (some ⟨g,0,none⟩),.int .i64 most] w (Drew (newRow Kd.int 300 w.heap.size) w g S A c bs f):=by
 obtain⟨m,rfl⟩:=Int.eq_ofNat_of_zero_le h0
 exact l71Turns_calls m (by omega) w g S A c bs f (hR.less (by omega))
theorem SysR.keep_ {T S S':Nat→Prop}{w w':World}{s:Sys}{A B C:Option Addr}(h:SysR w S s A B C)(hk:Keep T w w')(hT:∀ k,S k→¬ T k)(hm:∀ k,S k→S' k):SysR w' S' s A B C:=(h.step (fun k h1 h2=>hk.block k h2 (hT k h1))).mono hm
theorem sysRun_of {n1 n2 n3:Nat}{ck:Int}(p:Prog)(s:Sys)(turns:List Int)(P Q A B C T:Option Addr)(cp cq ca cb cc ct:Nat)(w:World)(S:Nat→Prop)(h1:s.cells.length=n1)(h2:s.tasks.length=n2)(h3:s.clock=ck)(h4:s.log.length=n3)(hP:Row Kd.int w S P p.cells)(hQ:Row (Kd.slice kAct) w S Q p.bodies)(hR:SysR w S s A B C)(hT:Row Kd.int w S T turns)(hSS:∀ k,S k→k<w.heap.size)
  (hok:sysOk p s=true) (hlen:turns.length≤300) (hlg:s.log.length≤100000) :
  Calls Tryz.prog 101 #[.agg #[.slice P p.cells.length cp,.slice Q p.bodies.length cq],.agg #[.slice A n1 ca,.slice B n2 cb,.int .i64 ck,.slice C n3 cc],.slice T turns.length ct] w (DoPost w S (runS p s turns) true):=by
 subst h1;subst h2;subst h3;subst h4
 exact sysRun_good p s turns P Q A B C T cp cq ca cb cc ct w S hP hQ hR hT hSS hok hlen hlg
theorem sysRun_new (p:Prog)(turns:List Int)(P Q A B C T:Option Addr)(cp cq ca cb cc ct:Nat)(w:World)(S:Nat→Prop)(hP:Row Kd.int w S P p.cells)(hQ:Row (Kd.slice kAct) w S Q p.bodies)(hR:SysR w S ⟨p.cells.map fun n=>⟨n,0,-1⟩,[newTask 0 (-1)],0,[]⟩ A B C)(hT:Row Kd.int w S T turns)(hSS:∀ k,S k→k<w.heap.size)
  (hok:progOk p=true) (hlen:turns.length≤300) :
  Calls Tryz.prog 101 #[.agg #[.slice P p.cells.length cp,.slice Q p.bodies.length cq],.agg #[.slice A p.cells.length ca,.slice B 1 cb,.int .i64 0,.slice C 0 cc],.slice T turns.length ct] w fun e w'=>∃ s',RunOk p s' 1000 2000∧DoPost w S s' true e w' :=
 (sysRun_of p ⟨p.cells.map fun n=>⟨n,0,-1⟩,[newTask 0 (-1)],0,[]⟩ turns P Q A B C T cp cq ca cb cc ct w S (by simp) rfl rfl rfl hP hQ hR hT hSS (newSys_ok hok) hlen (by simp)).mono fun e w' h=>by
  have h1:=RunOk.run turns (newSys_run hok)
  exact⟨_,⟨h1.inv,h1.win,Nat.le_trans h1.tasks (by omega),Nat.le_trans h1.mass (by omega)⟩,h⟩
theorem l71Sys_calls (w:World)(g:Nat)(S:Nat→Prop)(A:Option Addr)(c:Nat)(bs:List Int)(f:Nat)(hR:RdAt w g S A c bs (f+11000)) :
  Calls Tryz.prog 61 #[.pointer (some ⟨g,0,none⟩)] w (Drew (newSys w.heap.size) w g S A c bs f):=by
 have hgl:=hR.lt
 obtain⟨W,HW⟩:∃ W,W=(w.alloc (.cells #[.slice none 0 0,.slice none 0 0] 39)).alloc (.cells #[.slice none 0 0,.slice none 0 0,.int .i64 0,.slice none 0 0] 45):=⟨_,rfl⟩
 have hz:W.heap.size=w.heap.size+1+1:=by rw [HW];simp
 have hbW:Below w.heap.size w W:=by rw [HW];exact(alB w _).alloc (by simp) _
 have hW0:W.heap[w.heap.size]?=some (.cells #[.slice none 0 0,.slice none 0 0] 39 (0,0)):=by
  rw [HW];exact((alB _ _).block _ (by simp)).trans (heap_alloc_new _ _)
 have hW1:W.heap[w.heap.size+1]?=some (.cells #[.slice none 0 0,.slice none 0 0,.int .i64 0,.slice none 0 0] 45 (0,0)):=by
  rw [HW]
  have h1:=heap_alloc_new (w.alloc (.cells #[.slice none 0 0,.slice none 0 0] 39)) (.cells #[.slice none 0 0,.slice none 0 0,.int .i64 0,.slice none 0 0] 45 (0,0))
  simp only [World.size_alloc] at h1
  exact h1
 have HW01:=Lib.hid (And.intro hW0 hW1)
 clear hW0 hW1
 have HR0:=Lib.hid ((hR.below hbW).less (f':=f+900+10000) (by omega))
 clear hR
 go_enter Tryz.func61,Tryz.ntmps61
 go_wp2_with (first | (go_at_call 99;go_must (rw [← HW];refine(l71Prog_calls W _ _ _ _ _ (f+900) HR0.out).mono ?_;rintro e w1 ⟨_,rfl,⟨p,C,D,cc,cd,rfl,hcc,hcd,hrC,hrD,hok,hc1⟩,hR1,hk1⟩;have hz1:=hk1.size;have HR1:=Lib.hid hR1;have HK1:=Lib.hid hk1;have HOK:=Lib.hid hok;have HC:=Lib.hid (And.intro (hrC.bound) (hrD.bound));clear hR1 hk1 hok hc1 hrC hrD HR0)) | (go_at_call 100;go_must (refine(sysNew_good p C D cc cd _ (fun k=>W.heap.size≤k∧k<w1.heap.size) (HC.out.1.belowAll (alB w1 _)) (HC.out.2.belowAll (alB w1 _)) (fun k hk=>by simp;omega) HOK.out (by have:=formOk_len (progOk_form HOK.out);omega)).mono ?_;rintro e w2 ⟨A1,B1,C1,ca1,cb1,cc1,rfl,hS2,hb2⟩;have hz2:=hb2.size;simp at hz2;have HB2:=Lib.hid hb2;have HS2:=Lib.hid hS2;clear hb2 hS2)))
 obtain⟨W3,HW3⟩:∃ W3,W3=w2.alloc (.cells #[.slice A1 p.cells.length ca1,.slice B1 1 cb1,.int .i64 0,.slice C1 0 cc1] 45):=⟨_,rfl⟩
 rw [← HW3]
 have hz3:W3.heap.size=w2.heap.size+1:=by rw [HW3];simp
 have hb23:Below w2.heap.size w2 W3:=by rw [HW3];exact alB w2 _
 have q4:W3.heap[w1.heap.size]?=some (.cells #[.slice C p.cells.length cc,.slice D p.bodies.length cd] 39 (0,0)):=(hb23.block _ (by omega)).trans ((HB2.out.block _ (by simp)).trans (heap_alloc_new w1 _))
 have q5:W3.heap[w2.heap.size]?=some (.cells #[.slice A1 p.cells.length ca1,.slice B1 1 cb1,.int .i64 0,.slice C1 0 cc1] 45 (0,0)):=by rw [HW3];exact heap_alloc_new w2 _
 have hk13:Keep (fun k=>k=g) w1 W3:=(((Keep.refl _ _).alloc _).trans (Keep.of_belowAll _ HB2.out)).trans (Keep.of_belowAll _ hb23)
 have HK3:=Lib.hid (HK1.out.trans hk13)
 have HR3:=Lib.hid (HR1.out.keep (T:=fun _=>False) ((((Keep.refl _ _).alloc _).trans (Keep.of_belowAll _ HB2.out)).trans (Keep.of_belowAll _ hb23)) (fun h=>h) (fun _ _ _ h=>h))
 have HP3:=Lib.hid (And.intro (HC.out.1.keep hk13 (fun k h _ e=>by omega)) (And.intro (HC.out.2.keep hk13 (fun k h _ e=>by omega)) (HS2.out.keep_ (S':=fun k=>W.heap.size≤k∧k<w2.heap.size) (T:=fun k=>k=g) (Keep.of_belowAll _ hb23) (fun k h e=>by have:=h.2;simp at this;omega) (fun k h=>by have:=h.2;simp at this;omega))))
 have p0:=cell_of_row _ _ 0 _ _ _ q4
 have p1:=cell_of_row _ _ 1 _ _ _ q4
 have s0:=cell_of_row _ _ 0 _ _ _ q5
 have s1:=cell_of_row _ _ 1 _ _ _ q5
 have s2:=cell_of_row _ _ 2 _ _ _ q5
 have s3:=cell_of_row _ _ 3 _ _ _ q5
 have sf:=fun i=>froz_ q5 i
 simp at p0 p1 s0 s1 s2 s3
 have HQ:=Lib.hid (And.intro q4 q5)
 have hg4:¬ (w1.heap.size=g):=by omega
 have hg5:¬ (w2.heap.size=g):=by omega
 clear HW3 hk13 hb23 HR1 HK1 HB2 HC HS2 q4 q5
 refine wp_region_noPanic ?_
 refine wp_region_headw 8 (fun w'=>w'.cell? ⟨w1.heap.size,0,none⟩=some (.slice C p.cells.length cc)∧w'.cell? ⟨w1.heap.size,1,none⟩=some (.slice D p.bodies.length cd)∧w'.cell? ⟨w2.heap.size,0,none⟩=some (.slice A1 p.cells.length ca1)∧w'.cell? ⟨w2.heap.size,1,none⟩=some (.slice B1 1 cb1)∧w'.cell? ⟨w2.heap.size,2,none⟩=some (.int .i64 0)∧w'.cell? ⟨w2.heap.size,3,none⟩=some (.slice C1 0 cc1)) (fun _=>True) (by kernel_rfl) (by kernel_rfl) (by (try dsimp only)<;>(first | (go_keep;done) | (go_split_ands;exact⟨v0,v1,v2,v3,v4,v5⟩))) (fun hHeld=>?_)
 refine heaw_take (i:=0) (v:=_) (by kernel_rfl) rfl (by kernel_rfl) (by kernel_rfl) (by kernel_rfl) (fun _ _ _ h=>h) (Or.inl ⟨by rfl,by (intro w hSw;(try dsimp only at hSw);go_simp<;>with_reducible rfl)⟩) (by assumption) ?_
 (try simp only [q1,q2,q3,Act.put,q4,q5,q6])
 refine heaw_take (i:=1) (v:=_) (by kernel_rfl) rfl (by kernel_rfl) (by kernel_rfl) (by kernel_rfl) (fun _ _ _ h=>h) (Or.inl ⟨by rfl,by (intro w hSw;(try dsimp only at hSw);go_simp<;>with_reducible rfl)⟩) (by assumption) ?_
 (try simp only [q1,q2,q3,Act.put,q4,q5,q6])
 refine heaw_take (i:=2) (v:=_) (by kernel_rfl) rfl (by kernel_rfl) (by kernel_rfl) (by kernel_rfl) (fun _ _ _ h=>h) (Or.inl ⟨by rfl,by (intro w hSw;(try dsimp only at hSw);go_simp<;>with_reducible rfl)⟩) (by assumption) ?_
 (try simp only [q1,q2,q3,Act.put,q4,q5,q6])
 refine heaw_take (i:=3) (v:=_) (by kernel_rfl) rfl (by kernel_rfl) (by kernel_rfl) (by kernel_rfl) (fun _ _ _ h=>h) (Or.inl ⟨by rfl,by (intro w hSw;(try dsimp only at hSw);go_simp<;>with_reducible rfl)⟩) (by assumption) ?_
 (try simp only [q1,q2,q3,Act.put,q4,q5,q6])
 refine heaw_next (i:=4) rfl (by kernel_rfl) (by kernel_rfl) (fun Kq hKq=>?_)
 (try simp only [q1,q2,q3])
 refine step_hold (a:=⟨_,_⟩) ?_
 go_simp
 (refine(pick_calls _ _ _ _ _ _ _ (f+800) ((HR3.out.below ((Below.refl _ W3).drew)).less (by omega)) (by omega)).mono ?_;rintro e w4 ⟨x,rfl,hx0,hx1,hR4,hk4⟩;have hk4:Keep (fun k=>k=g) W3 w4:=⟨hk4.os,hk4.tape,hk4.output,hk4.size,hk4.block⟩;have v0:=(hk4.cell (p:=⟨w1.heap.size,0,none⟩) (by show w1.heap.size<W3.heap.size;omega) hg4).trans p0;have v1:=(hk4.cell (p:=⟨w1.heap.size,1,none⟩) (by show w1.heap.size<W3.heap.size;omega) hg4).trans p1;have v2:=(hk4.cell (p:=⟨w2.heap.size,0,none⟩) (by show w2.heap.size<W3.heap.size;omega) hg5).trans s0;have v3:=(hk4.cell (p:=⟨w2.heap.size,1,none⟩) (by show w2.heap.size<W3.heap.size;omega) hg5).trans s1;have v4:=(hk4.cell (p:=⟨w2.heap.size,2,none⟩) (by show w2.heap.size<W3.heap.size;omega) hg5).trans s2;have v5:=(hk4.cell (p:=⟨w2.heap.size,3,none⟩) (by show w2.heap.size<W3.heap.size;omega) hg5).trans s3;have HR4:=Lib.hid hR4;have HK4:=Lib.hid hk4;have hz4:=hk4.size;clear hR4 hk4)
 refine hKq.out _ _ (by (try dsimp only)<;>(first | (go_keep;done) | (go_split_ands;exact⟨v0,v1,v2,v3,v4,v5⟩))) (fun hHeld=>?_)
 clear hKq Kq
 (try simp only [q1,q2,q3,Act.put,q4,q5,q6])
 refine heaw_take (i:=5) (v:=_) (by kernel_rfl) rfl (by kernel_rfl) (by kernel_rfl) (by kernel_rfl) (fun _ _ _ h=>h) (Or.inl ⟨by rfl,by (intro w hSw;(try dsimp only at hSw);go_simp<;>with_reducible rfl)⟩) (by assumption) ?_
 (try simp only [q1,q2,q3,Act.put,q4,q5,q6])
 refine heaw_next (i:=6) rfl (by kernel_rfl) (by kernel_rfl) (fun Kq hKq=>?_)
 (try simp only [q1,q2,q3])
 refine step_hold (a:=⟨_,_⟩) ?_
 go_simp
 (have hw:IntKind.i64.wrap (10+x)=10+x:=IntWalk.i64_in _ (by omega);refine(l71Turns_int _ (by rw [hw];omega) (by rw [hw];omega) w4 _ _ _ _ _ (f+100) (HR4.out.less (by omega))).mono ?_;rintro e w5 ⟨_,rfl,⟨tu,T,ct,rfl,htc,htl,hT⟩,hR5,hk5⟩;have v0:=(hk5.cell (p:=⟨w1.heap.size,0,none⟩) (by show w1.heap.size<w4.heap.size;omega) hg4).trans v0;have v1:=(hk5.cell (p:=⟨w1.heap.size,1,none⟩) (by show w1.heap.size<w4.heap.size;omega) hg4).trans v1;have v2:=(hk5.cell (p:=⟨w2.heap.size,0,none⟩) (by show w2.heap.size<w4.heap.size;omega) hg5).trans v2;have v3:=(hk5.cell (p:=⟨w2.heap.size,1,none⟩) (by show w2.heap.size<w4.heap.size;omega) hg5).trans v3;have v4:=(hk5.cell (p:=⟨w2.heap.size,2,none⟩) (by show w2.heap.size<w4.heap.size;omega) hg5).trans v4;have v5:=(hk5.cell (p:=⟨w2.heap.size,3,none⟩) (by show w2.heap.size<w4.heap.size;omega) hg5).trans v5;have HR5:=Lib.hid hR5;have hz5:=hk5.size;have HK5:=Lib.hid (HK4.out.trans hk5);have HT:=Lib.hid hT.bound;clear hR5 hk5 hT hw)
 refine hKq.out _ _ (by (try dsimp only)<;>(first | (go_keep;done) | (go_split_ands;exact⟨v0,v1,v2,v3,v4,v5⟩))) (fun hHeld=>?_)
 clear hKq Kq
 (try simp only [q1,q2,q3,Act.put,q4,q5,q6])
 refine heaw_next (i:=7) rfl (by kernel_rfl) (by kernel_rfl) (fun Kq hKq=>?_)
 (try simp only [q1,q2,q3])
 refine step_hold (a:=⟨_,_⟩) ?_
 go_simp
 (refine(sysRun_new p tu C D A1 B1 C1 T cc cd ca1 cb1 cc1 ct w5 (fun k=>W.heap.size≤k∧k<w5.heap.size∧k≠w2.heap.size) ((HP3.out.1.keep HK5.out (fun k h _ e=>by omega)).mono (fun k h=>by omega)) ((HP3.out.2.1.keep HK5.out (fun k h _ e=>by omega)).mono (fun k h=>by omega)) (HP3.out.2.2.keep_ HK5.out (fun k h e=>by omega) (fun k h=>by omega)) (HT.out.mono (fun k h=>by omega)) (fun k h=>h.2.1) HOK.out htl).mono ?_;rintro e w6 ⟨s9,hrun,A2,B2,C2,ca2,cb2,cc2,rfl,hS6,hb6⟩;have v0:=(hb6.cell (p:=⟨w1.heap.size,0,none⟩) (by show w1.heap.size<w5.heap.size;omega)).trans v0;have v1:=(hb6.cell (p:=⟨w1.heap.size,1,none⟩) (by show w1.heap.size<w5.heap.size;omega)).trans v1;have v2:=(hb6.cell (p:=⟨w2.heap.size,0,none⟩) (by show w2.heap.size<w5.heap.size;omega)).trans v2;have v3:=(hb6.cell (p:=⟨w2.heap.size,1,none⟩) (by show w2.heap.size<w5.heap.size;omega)).trans v3;have v4:=(hb6.cell (p:=⟨w2.heap.size,2,none⟩) (by show w2.heap.size<w5.heap.size;omega)).trans v4;have v5:=(hb6.cell (p:=⟨w2.heap.size,3,none⟩) (by show w2.heap.size<w5.heap.size;omega)).trans v5;have hz6:=hb6.size;have q9:=(hb6.block w2.heap.size (by omega)).trans ((HK5.out.blk HQ.out.2 hg5));have vf:=fun i=>froz_ q9 i;clear q9;have HB6:=Lib.hid hb6;have HS6:=Lib.hid hS6;have HRUN:=Lib.hid hrun;clear hb6 hS6 hrun)
 refine hKq.out _ _ (by (try dsimp only)<;>(first | (go_keep;done) | (go_split_ands;exact⟨v0,v1,v2,v3,v4,v5⟩))) (fun hHeld=>?_)
 clear hKq Kq
 (try simp only [q1,q2,q3,Act.put,q4,q5,q6])
 refine heaw_done (by kernel_rfl) ?_
 refine wpAnyH_take (i:=8) (v:=_) rfl (by kernel_rfl) (by kernel_rfl) (by kernel_rfl) (fun _ _ _ h=>h) (Or.inl ⟨by rfl,by (intro w hSw;go_simp<;>with_reducible rfl)⟩) trivial ?_
 (try simp only [q1,q2,q3,Act.put,q4,q5,q6])
 refine wpAnyH_take (i:=9) (v:=_) rfl (by kernel_rfl) (by kernel_rfl) (by kernel_rfl) (fun _ _ _ h=>h) (Or.inl ⟨by rfl,by (intro w hSw;go_simp<;>with_reducible rfl)⟩) trivial ?_
 (try simp only [q1,q2,q3,Act.put,q4,q5,q6])
 refine wpAnyH_take (i:=10) (v:=_) rfl (by kernel_rfl) (by kernel_rfl) (by kernel_rfl) (fun _ _ _ h=>h) (Or.inl ⟨by rfl,by (intro w hSw;go_simp<;>with_reducible rfl)⟩) trivial ?_
 (try simp only [q1,q2,q3,Act.put,q4,q5,q6])
 refine wpAnyH_all (rs:=[11]) (by kernel_rfl) (by simp) (fun i hi=>?_)
 obtain rfl:i=11:=by simpa using hi
 refine wpOp_step rfl (fun K' hK=>?_)
 refine step_hold (a:=⟨_,_⟩) ?_
 clear hi
 go_simp
 refine hK _ _ ⟨trivial,wpAnyH_done (by kernel_rfl) (NoPanic.normal ?_) _⟩
 clear hK K'
 have hk06:Keep (fun k=>k=g) W w6:=(HK3.out.trans HK5.out).trans (Keep.of_belowAll _ HB6.out)
 obtain⟨X,hX⟩:∃ X,X=(((w6.setCell ⟨w2.heap.size,0,none⟩ (.slice A2 s9.cells.length ca2)).setCell ⟨w2.heap.size,1,none⟩ (.slice B2 s9.tasks.length cb2)).setCell ⟨w2.heap.size,2,none⟩ (.int .i64 s9.clock)).setCell ⟨w2.heap.size,3,none⟩ (.slice C2 s9.log.length cc2):=⟨_,rfl⟩
 have hkX:Keep (fun k=>k=w2.heap.size) w6 X:=by rw [hX];exact((((Keep.refl (fun k=>k=w2.heap.size) w6).setCell (p:=⟨w2.heap.size,0,none⟩) (fun _=>rfl) _).setCell (p:=⟨w2.heap.size,1,none⟩) (fun _=>rfl) _).setCell (p:=⟨w2.heap.size,2,none⟩) (fun _=>rfl) _).setCell (p:=⟨w2.heap.size,3,none⟩) (fun _=>rfl) _
 have x5:X.heap[w2.heap.size]?=some (.cells #[.slice A2 s9.cells.length ca2,.slice B2 s9.tasks.length cb2,.int .i64 s9.clock,.slice C2 s9.log.length cc2] 45 (0,0)):=by
  have q:=heap_set_at (i:=3) (heap_set_at (i:=2) (heap_set_at (i:=1) (heap_set_at (i:=0) ((HB6.out.block w2.heap.size (by omega)).trans (HK5.out.blk HQ.out.2 hg5)) (.slice A2 s9.cells.length ca2)) (.slice B2 s9.tasks.length cb2)) (.int .i64 s9.clock)) (.slice C2 s9.log.length cc2)
  simp only [List.setIfInBounds_toArray,List.set_cons_zero,List.set_cons_succ] at q
  rw [hX];exact q
 have x4:=hkX.blk ((HB6.out.block w1.heap.size (by omega)).trans (HK5.out.blk HQ.out.1 hg4)) (by omega)
 have xw0:=hkX.blk (hk06.blk HW01.out.1 (by omega)) (by omega)
 have xw1:=hkX.blk (hk06.blk HW01.out.2 (by omega)) (by omega)
 have HKX:=Lib.hid (hk06.then_ hkX (fun i hi e=>by omega))
 have HFIN:Hid (∀ Y,Keep (fun k=>k=w.heap.size∨k=w.heap.size+1) X Y→newSys w.heap.size (.tuple #[.agg #[.slice C p.cells.length cc,.slice D p.bodies.length cd],.agg #[.slice A2 s9.cells.length ca2,.slice B2 s9.tasks.length cb2,.int .i64 s9.clock,.slice C2 s9.log.length cc2]]) Y∧RdAt Y g S A c bs f∧Keep (fun k=>k=g) w Y):=Lib.hid fun Y hY=>by
  have hkX2:=hkX.trans (Keep.refl _ _)
  have zX:=hkX.size
  have zY:=hY.size
  refine⟨⟨p,s9,C,D,A2,B2,C2,cc,cd,ca2,cb2,cc2,rfl,?_,?_,?_,HRUN.out⟩,?_,?_⟩
  ·exact(((((HP3.out.1.keep HK5.out (fun k h _ e=>by omega)).belowAll HB6.out).keep hkX (fun k h _ e=>by omega)).keep hY (fun k h _ e=>by omega)).mono (fun k h=>by omega))
  ·exact(((((HP3.out.2.1.keep HK5.out (fun k h _ e=>by omega)).belowAll HB6.out).keep hkX (fun k h _ e=>by omega)).keep hY (fun k h _ e=>by omega)).mono (fun k h=>by omega))
  ·exact(HS6.out.keep_ (S':=fun k=>W.heap.size≤k∧k<w6.heap.size) hkX (fun k h e=>by omega) (fun k h=>by omega)).keep_ hY (fun k h e=>by omega) (fun k h=>by omega)
  ·have h1:=((HR5.out.keep (T:=fun _=>False) (Keep.of_belowAll _ HB6.out) (fun h=>h) (fun _ _ _ h=>h)).keep hkX (by omega) (fun k hs _ e=>by have:=HR5.out.ne k hs;omega)).keep hY (by omega) (fun k hs _ e=>by have:=HR5.out.ne k hs;omega)
   exact h1.less (by omega)
  ·exact((Keep.of_belowAll (fun k=>k=g) (Below.refl _ w)).trans ((Keep.of_below (T:=fun k=>k=g) hbW (fun k h1 h2=>by omega)).then_ HKX.out (fun i hi e=>e))).then_ hY (fun i hi e=>by omega)
 have t0:=cell_of_row _ _ 0 _ _ _ xw0
 have t1:=cell_of_row _ _ 1 _ _ _ xw0
 have tf:=fun i=>froz_ xw0 i
 have u0:=cell_of_row _ _ 0 _ _ _ xw1
 have u1:=cell_of_row _ _ 1 _ _ _ xw1
 have u2:=cell_of_row _ _ 2 _ _ _ xw1
 have u3:=cell_of_row _ _ 3 _ _ _ xw1
 have uf:=fun i=>froz_ xw1 i
 have e0:=cell_of_row _ _ 0 _ _ _ x4
 have e1:=cell_of_row _ _ 1 _ _ _ x4
 have g0:=cell_of_row _ _ 0 _ _ _ x5
 have g1:=cell_of_row _ _ 1 _ _ _ x5
 have g2:=cell_of_row _ _ 2 _ _ _ x5
 have g3:=cell_of_row _ _ 3 _ _ _ x5
 simp at t0 t1 u0 u1 u2 u3 e0 e1 g0 g1 g2 g3
 have hn10a:w1.heap.size≠w.heap.size:=by omega
 have hn10b:w.heap.size≠w1.heap.size:=by omega
 have hn11a:w1.heap.size≠w.heap.size+1:=by omega
 have hn11b:w.heap.size+1≠w1.heap.size:=by omega
 have hn20a:w2.heap.size≠w.heap.size:=by omega
 have hn20b:w.heap.size≠w2.heap.size:=by omega
 have hn21a:w2.heap.size≠w.heap.size+1:=by omega
 have hn21b:w.heap.size+1≠w2.heap.size:=by omega
 rw [← hX]
 clear hX hkX x4 x5 xw0 xw1 hk06 HKX HS6 HB6 HRUN HR5 HK5 HT HP3 HQ HR3 HK3 HW01 HOK hHeld v0 v1 v2 v3 v4 v5 vf p0 p1 s0 s1 s2 s3 sf
 go_wp2_with fail
 go_region_held3 (fun w'=>w'.cell? ⟨w1.heap.size,0,none⟩=some (.slice C p.cells.length cc)∧w'.cell? ⟨w1.heap.size,1,none⟩=some (.slice D p.bodies.length cd)∧w'.cell? ⟨w2.heap.size,0,none⟩=some (.slice A2 s9.cells.length ca2)∧w'.cell? ⟨w2.heap.size,1,none⟩=some (.slice B2 s9.tasks.length cb2)∧w'.cell? ⟨w2.heap.size,2,none⟩=some (.int .i64 s9.clock)∧w'.cell? ⟨w2.heap.size,3,none⟩=some (.slice C2 s9.log.length cc2)) (go_keep) (fail)
 go_wp2
 refine bodyPost_ret (v:=.tuple #[.agg #[.slice C p.cells.length cc,.slice D p.bodies.length cd],.agg #[.slice A2 s9.cells.length ca2,.slice B2 s9.tasks.length cb2,.int .i64 s9.clock,.slice C2 s9.log.length cc2]]) (by simp [results,Tryz.results61,go_sem, *]) rfl ?_
 refine drew_of (HFIN.out _ ?_)
 refine Keep.drew ?_
 iterate 4 (refine Keep.setCell ?_ (fun _=>.inr rfl) _)
 iterate 2 (refine Keep.setCell ?_ (fun _=>.inl rfl) _)
 exact Keep.refl _ _
end Go.Proofs.YtjacjafmimgfcaaGreat
