/- The reference's LogDo, for a system in order. -/
import Derived.Test.YtjacjafmimgfcaaGreatWap
import Derived.Test.YtjacjafmimgfcaaGreatWbr
set_option linter.unusedVariables false
set_option linter.unusedSimpArgs false
namespace Go.Proofs.YtjacjafmimgfcaaGreat
open Go.RowKit
attribute [local go_sem ↓] Go.wp_at_zero Go.wp_at_succ
theorem Regs.slice {w:World}{B:Nat}{v:Value}{rs:List (List Int)}(h:Regs w B v rs):∃ A c,v=.slice A rs.length c:=by
 obtain⟨A,c,e,_⟩:=Own.slice h
 exact⟨A,c,e⟩
def Made9 (w0:World) (vc:Value) (c:List Int) (n:Nat) (v:Value) (wr:World):Prop:=Regs wr w0.heap.size v (List.replicate n [0,0,0])∧OwnI 3 wr w0.heap.size vc c∧(∀ k,vc.ownBlock=some k→v.ownBlock≠some k)∧Below w0.heap.size w0 wr
structure Done9 (w0:World) (vr:Value) (c:List Int) (rs:List (List Int)) (vc:Value) (wr:World):Prop where
 r:Regs wr w0.heap.size vr rs
 c:OwnI 3 wr w0.heap.size vc c
 a:∀ k,vc.ownBlock=some k→vr.ownBlock≠some k
 b:Below w0.heap.size w0 wr
theorem Made9.next {w0 wr w9:World}{o1 o2:Obj}{vc v v9:Value}{c:List Int}{n:Nat}{S:Nat→Prop}(h:Made9 w0 vc c n v wr)(hg:((wr.alloc o1).alloc o2).grownBy w9 v.ownBlock)(hv:v9.ownBlock=v.ownBlock∨v9.ownBlock=some ((wr.alloc o1).alloc o2).heap.size)
  (ho:Own (Kd.slice Kd.int) 22 w9 w0.heap.size S v9 (List.replicate n [0,0,0] ++ [[0,0,0]])) (hS:∀ k,S k→w0.heap.size≤k):Made9 w0 vc c (n+1) v9 w9:=by
 obtain⟨h1,h2,h3,h4⟩:=h
 have hk:=Keep.of_grown (T:=fun k=>v.ownBlock=some k) hg fun k e=>e
 have hs:=hk.size
 refine⟨by rw [List.replicate_succ'];exact ho.mono hS,(h2.belowAll (alB2 wr o1 o2)).grown hg (fun k e e2=>h3 k e e2.symm),fun k e e2=>?_,?_⟩
 ·rcases hv with e3 | e3
  ·exact h3 k e (e3.symm.trans e2)
  ·have:=(h2.blk k e).2
   rw [e3] at e2
   injection e2 with e2
   simp at e2
   omega
 ·have hb:Below w0.heap.size w0 ((wr.alloc o1).alloc o2):=(h4.alloc h4.size o1).alloc (by have:=h4.size;simp;omega) o2
  exact belowTwo hb (Nat.le_refl _) (Nat.le_refl _) (hk.below (B:=w0.heap.size) (fun k h5 h6=>by have:=(Own.blk h1 k h6).1;omega) hb.size)
theorem logDo1_none {p:Prog}{s:Sys}{cr:List Int × List (List Int)}{e:Entry}(h:entryDeeds p s e=none):logDo1 p s cr e=none:=by unfold logDo1;rw [h]
theorem logDo1_fail {p:Prog}{s:Sys}{cr:List Int × List (List Int)}{e:Entry}{ds:List Deed}(h:entryDeeds p s e=some ds)(h2:changeDo cr.1 (cr.2.getD e.task.toNat []) ds=none):logDo1 p s cr e=none:=by unfold logDo1;simp only [h,h2]
theorem logDo1_no {p:Prog}{s:Sys}{cr x:List Int × List (List Int)}{e:Entry}{ds:List Deed}{r:List Int}{c:List Int}(h:entryDeeds p s e=some ds)(h2:changeDo cr.1 (cr.2.getD e.task.toNat []) ds=some (c,r))(h3:(hasAll cr.1 e.reads && decide (c=putAll cr.1 e.puts))=false):logDo1 p s cr e=none:=by unfold logDo1;simp only [h,h2];rw [if_neg (by rw [h3];simp)]
theorem logDo1_yes {p:Prog}{s:Sys}{cr x:List Int × List (List Int)}{e:Entry}{ds:List Deed}{r:List Int}{c:List Int}(h:entryDeeds p s e=some ds)(h2:changeDo cr.1 (cr.2.getD e.task.toNat []) ds=some (c,r))(h3:hasAll cr.1 e.reads=true)(h4:c=putAll cr.1 e.puts):logDo1 p s cr e=some (c,cr.2.set e.task.toNat r):=by unfold logDo1;simp only [h,h2];rw [if_pos (by rw [h3];simp [h4])]
theorem entryDeeds_task {p:Prog}{s:Sys}{e:Entry}{ds:List Deed}(h:entryDeeds p s e=some ds):0≤e.task∧e.task<s.tasks.length:=by
 unfold entryDeeds at h
 split at h
 ·rename_i h1;simp [inR] at h1;omega
 ·cases h
set_option maxHeartbeats 4000000 in
set_option maxRecDepth 100000 in
theorem specLogDo_good (p:Prog)(s:Sys)(l:List Entry)(P Q A B C L:Option Addr)(cp cq ca cb cc cl:Nat)(w:World)(S:Nat→Prop)(hP:Row Kd.int w S P p.cells)(hQ:Row (Kd.slice kAct) w S Q p.bodies)(hS:SysR w S s A B C)(hL:Row kEntry w S L l)(hSS:∀ k,S k→k<w.heap.size)(hi:∀ e ∈ l,∀ x ∈ e.puts,isI x.num)(hok:sysOk p s=true) :
  Calls Tryz.prog 10 #[.agg #[.slice P p.cells.length cp,.slice Q p.bodies.length cq],.agg #[.slice A s.cells.length ca,.slice B s.tasks.length cb,.int .i64 s.clock,.slice C s.log.length cc],.slice L l.length cl] w fun e w'=>ResLogDo (logDo p s l) w.heap.size e w'∧Below w.heap.size w w':=by
 obtain⟨hbody,hn1,hn7,hclx,hc3,hpok⟩:=sysOk_use hok
 obtain⟨W,HW⟩:∃ W,W=(w.alloc (.cells #[.slice P p.cells.length cp,.slice Q p.bodies.length cq] 39)).alloc (.cells #[.slice A s.cells.length ca,.slice B s.tasks.length cb,.int .i64 s.clock,.slice C s.log.length cc] 45):=⟨_,rfl⟩
 have hbW:Below w.heap.size w W:=by rw [HW];exact(alB w _).alloc (by simp) _
 have hz:W.heap.size=w.heap.size+1+1:=by rw [HW];simp
 have hW0:W.heap[w.heap.size]?=some (.cells #[.slice P p.cells.length cp,.slice Q p.bodies.length cq] 39 (0,0)):=by
  rw [HW];exact((alB _ _).block _ (by simp)).trans (heap_alloc_new _ _)
 have hW1:W.heap[w.heap.size+1]?=some (.cells #[.slice A s.cells.length ca,.slice B s.tasks.length cb,.int .i64 s.clock,.slice C s.log.length cc] 45 (0,0)):=by
  rw [HW]
  have h1:=heap_alloc_new (w.alloc (.cells #[.slice P p.cells.length cp,.slice Q p.bodies.length cq] 39)) (.cells #[.slice A s.cells.length ca,.slice B s.tasks.length cb,.int .i64 s.clock,.slice C s.log.length cc] 45 (0,0))
  simp only [World.size_alloc] at h1
  exact h1
 have HR:Hid (logDo p s l=logDos p s (p.cells,List.replicate s.tasks.length [0,0,0]) l):=Lib.hid (by unfold logDo;rw [if_pos hok])
 have HK:=Lib.hid (And.intro hok (And.intro hbody hi))
 have HPQ:=Lib.hid (And.intro (hP.belowAll hbW) (And.intro (hQ.belowAll hbW) (And.intro (hS.below hbW) (hL.belowAll hbW))))
 have hlm:=hL.1
 have hmk:=mk3s
 have HW01:=Lib.hid (And.intro hW0 hW1)
 clear hP hQ hS hL hok hbody hi hpok hclx
 have box:∀ wr,Below W.heap.size W wr→Hid (wr.heap[w.heap.size]?=some (.cells #[.slice P p.cells.length cp,.slice Q p.bodies.length cq] 39 (0,0))∧wr.heap[w.heap.size+1]?=some (.cells #[.slice A s.cells.length ca,.slice B s.tasks.length cb,.int .i64 s.clock,.slice C s.log.length cc] 45 (0,0))):=fun wr hb=>Lib.hid ⟨(hb.block _ (by omega)).trans HW01.out.1,(hb.block _ (by omega)).trans HW01.out.2⟩
 have HBOX:=Lib.hid box
 clear box hW0 hW1
 go_enter Tryz.func10,Tryz.ntmps10
 go_wp2_with (first | (go_at_call 30;go_must (rw [← HW];refine(specSysOk_calls p s P Q A B C cp cq ca cb cc W S HPQ.out.1 HPQ.out.2.1 HPQ.out.2.2.1).mono ?_;rintro e w2 ⟨rfl,hb2⟩;rw [HK.out.1];have hz2:=hb2.size;have hlt2:w.heap.size<w2.heap.size:=(by omega);obtain⟨b0,b1⟩:=(HBOX.out w2 hb2).out;have i0:=cell_of_row _ _ 0 _ _ _ b0;simp at i0;clear b0 b1)) | (at_builtin;refine wpList_clone_kd (d:=Kd.int) rfl (.tmp 24) (.tmp 26) _ rfl Tryz.underlying22 _ 8 infoInt rfl (by decide) (by decide) rfl P cp rfl (HPQ.out.1.belowAll hb2) (by omega) ?_;intro vc w3 hoc hbc;have hz3:=hbc.size;have HC3:=Lib.hid (OwnI.of hoc);have HB3:=Lib.hid (belowTwo hb2 hz2 (Nat.le_refl _) hbc);clear hoc hbc hb2 i0))
 have HM0:Hid (Made9 W vc p.cells 0 (.slice (some ⟨w3.heap.size,0,none⟩) 0 0) (w3.alloc (.cells #[] 22))):=Lib.hid
  ⟨Own.empty_ _ _ _ _ _ (by omega) (by omega),(HC3.out.lower (by omega)).belowAll (alB w3 _),fun k e e2=>by have:=(HC3.out.blk k e).2;simp [Value.ownBlock] at e2;omega,HB3.out.alloc HB3.out.size _⟩
 obtain⟨Avc,cvc,rfl,_⟩:=HC3.out.row
 clear HC3
 go_loopw [10,11] (fun v i wr=>∃ n:Nat,n≤s.tasks.length∧i=.int .i64 n∧Made9 W (.slice Avc p.cells.length cvc) p.cells n v wr) (fun v i _=>s.tasks.length-(intOf i).toNat)
 case atStart=>exact⟨0,Nat.zero_le _,rfl,HM0.out⟩
 case round =>
  clear HM0
  obtain⟨n,hnl,rfl,hM⟩:=hrel
  have hzr:=hM.2.2.2.size
  have hltr:w.heap.size+1<wr.heap.size:=by omega
  have hltr0:w.heap.size<wr.heap.size:=by omega
  obtain⟨b0,b1⟩:=(HBOX.out wr hM.2.2.2).out
  have s1:=cell_of_row _ _ 1 _ _ _ b1
  simp at s1
  clear b0 b1
  obtain⟨Av,cv,rfl⟩:=Regs.slice hM.1
  by_cases hlt:n<s.tasks.length
  ·have hlt':(n:Int)<s.tasks.length:=by omega
   have HM:=Lib.hid hM
   clear hM
   have hz0:Row Kd.int (wr.alloc (.cells #[.int .i64 0,.int .i64 0,.int .i64 0] 3)) (fun k=>wr.heap.size≤k) (some ⟨wr.heap.size,0,none⟩) [0,0,0]:=by
    obtain⟨A9,c9,e9,_,h9⟩:=(ownI_zeros' wr wr.heap.size (Nat.le_refl _)).row
    injection e9 with e9 _ _
    subst e9
    exact h9.mono fun k hk=>((ownI_zeros' wr wr.heap.size (Nat.le_refl _)).blk k hk).1
   have HZ0:=Lib.hid hz0
   clear hz0
   go_wp2_with (at_builtin;go_must (refine wpList_append_kd (d:=Kd.slice Kd.int) rfl (.tmp 36) (.tmp 38) _ rfl Tryz.underlying34 _ 24 infoIntS rfl (by decide) (by decide) rfl (Own.belowAll HM.out.1 (alB2 wr _ _)) _ _ rfl (rowOneAt (d:=Kd.slice Kd.int) (e:=22) (S:=fun k=>wr.heap.size≤k) (x:=[0,0,0]) (wr.heap.size+1) ⟨_,3,rfl,Nat.le_refl _,HZ0.out⟩ (by simp)) (fun k hk e=>by have:=(Own.blk HM.out.1 k e.symm).2.1;omega) (by simp;omega) (by simp;omega) ?_;intro v9 w9 ho9 hg9 hv9))
   have HN:=Lib.hid (Made9.next HM.out hg9 hv9 ho9 (fun k hk=>by rcases hk with h1 | h1 | h1;exact h1;rcases h1 with h1 | h1<;>omega;simp at h1;omega))
   clear ho9 hg9 hv9 HM HZ0
   exact⟨⟨n+1,by omega,by go_num,HN.out⟩,by simp [intOf];omega⟩
  ·obtain rfl:n=s.tasks.length:=by omega
   obtain⟨gr,cr9,ev,hgr1,hgr2,_,_⟩:=Own.place hM.1 (by simp;omega)
   injection ev with ev _ ev2
   subst ev;subst ev2
   have HD:=Lib.hid (Done9.mk hM.1 hM.2.1 hM.2.2.1 hM.2.2.2)
   clear hM hnl hlt hzr hltr hltr0
   rw [List.length_replicate]
   go_wp2_with fail
   have hlen0:Hid ((List.replicate s.tasks.length [(0:Int),0,0]).length=s.tasks.length):=Lib.hid (by simp)
   have HD0:=Lib.hid (HD.out)
   go_loopw [9,12,13,14,15,16,17] (fun v9 i x13 x14 x15 x16 x17 wr=>∃ (n:Nat) (c:List Int) (rs:List (List Int)),n≤l.length∧i=.int .i64 n∧logDos p s (p.cells,List.replicate s.tasks.length [0,0,0]) (l.take n)=some (c,rs)∧Done9 W (.slice (some ⟨gr,0,none⟩) s.tasks.length cv) c rs v9 wr∧c.length=p.cells.length∧rs.length=s.tasks.length) (fun v9 i x13 x14 x15 x16 x17 _=>l.length-(intOf i).toNat)
   case atStart=>exact⟨0,p.cells,List.replicate s.tasks.length [0,0,0],Nat.zero_le _,rfl,rfl,(by have:=HD.out;rw [List.length_replicate] at this;exact this),rfl,hlen0.out⟩
   case round =>
    clear HD HD0 hlen0
    obtain⟨n,c,rs,hnl,rfl,hlog,hD,hc,hrs⟩:=hrel
    have hzr:=hD.b.size
    obtain⟨Ac,cvc2,hv9,hcv2,hrc⟩:=hD.c.row
    subst hv9
    have HD:=Lib.hid (And.intro hD (And.intro hlog (And.intro hc (And.intro hrs hrc))))
    clear hD hlog hc hrs hrc hcv2
    by_cases hlt:n<l.length
    ·have hlt':(n:Int)<l.length:=by omega
     have hn0:(0:Int)≤n:=by omega
     obtain⟨b0,b1⟩:=(HBOX.out wr HD.out.1.b).out
     have p0:=cell_of_row _ _ 0 _ _ _ b0
     have p1:=cell_of_row _ _ 1 _ _ _ b0
     have s0:=cell_of_row _ _ 0 _ _ _ b1
     have s1:=cell_of_row _ _ 1 _ _ _ b1
     have s2:=cell_of_row _ _ 2 _ _ _ b1
     have s3:=cell_of_row _ _ 3 _ _ _ b1
     simp at p0 p1 s0 s1 s2 s3
     clear b0 b1
     obtain⟨be,oe,Ad,Au,cd,cu,eL,hbe,hSe,hrow,hat⟩:=litEntry (HPQ.out.2.2.2.belowAll HD.out.1.b) hlt
     subst eL
     have e0:=hat.c0
     have e1:=hat.c1
     have e2:=hat.c2
     have e3:=hat.c3
     have e4:=hat.c4
     have e5:=hat.c5
     dsimp only at e1 e2 e3 e4 e5
     obtain⟨E,hE⟩:∃ E,E=l[n]:=⟨_,rfl⟩
     rw [← hE] at e0 e1 e2 e3 e4 e5 hrow
     have HE:=Lib.hid hE
     have HROW:=Lib.hid hrow
     have hbeW:be<W.heap.size:=by have:=hSS _ hSe;omega
     clear hat hE hrow
     go_wp2_with fail
     refine wp_region_noPanic ?_
     refine wp_region_headw 7 (fun w'=>w'.cell? ⟨w.heap.size,0,none⟩=some (.slice P p.cells.length cp)∧w'.cell? ⟨w.heap.size,1,none⟩=some (.slice Q p.bodies.length cq)∧w'.cell? ⟨w.heap.size+1,0,none⟩=some (.slice A s.cells.length ca)∧w'.cell? ⟨w.heap.size+1,1,none⟩=some (.slice B s.tasks.length cb)∧w'.cell? ⟨w.heap.size+1,2,none⟩=some (.int .i64 s.clock)∧w'.cell? ⟨w.heap.size+1,3,none⟩=some (.slice C s.log.length cc)∧w'.cell? ⟨be,oe+n*6,none⟩=some (.int .i64 E.task)∧w'.cell? ⟨be,oe+n*6+1,none⟩=some (.int .i64 E.act)∧w'.cell? ⟨be,oe+n*6+2,none⟩=some (.int .i64 E.whn)∧w'.cell? ⟨be,oe+n*6+3,none⟩=some (.slice Ad E.reads.length cd)∧w'.cell? ⟨be,oe+n*6+4,none⟩=some (.slice Au E.puts.length cu)∧w'.cell? ⟨be,oe+n*6+5,none⟩=some (.int .i64 E.frm)) (fun _=>True) (by kernel_rfl) (by kernel_rfl) (by (try dsimp only)<;>(first | (go_keep;done) | (go_split_ands;exact⟨v0,v1,v2,v3,v4,v5,v6,v7,v8,v9,v10,v11⟩))) (fun hHeld=>?_)
     refine heaw_take (i:=0) (v:=_) (by kernel_rfl) rfl (by kernel_rfl) (by kernel_rfl) (by kernel_rfl) (fun _ _ _ h=>h) (Or.inl ⟨by rfl,by (intro w hSw;(try dsimp only at hSw);go_simp<;>with_reducible rfl)⟩) (by assumption) ?_
     (try simp only [q1,q2,q3,Act.put,q4,q5,q6])
     refine heaw_take (i:=1) (v:=_) (by kernel_rfl) rfl (by kernel_rfl) (by kernel_rfl) (by kernel_rfl) (fun _ _ _ h=>h) (Or.inl ⟨by rfl,by (intro w hSw;(try dsimp only at hSw);go_simp<;>with_reducible rfl)⟩) (by assumption) ?_
     (try simp only [q1,q2,q3,Act.put,q4,q5,q6])
     refine heaw_take (i:=2) (v:=_) (by kernel_rfl) rfl (by kernel_rfl) (by kernel_rfl) (by kernel_rfl) (fun _ _ _ h=>h) (Or.inl ⟨by rfl,by (intro w hSw;(try dsimp only at hSw);go_simp<;>with_reducible rfl)⟩) (by assumption) ?_
     (try simp only [q1,q2,q3,Act.put,q4,q5,q6])
     refine heaw_take (i:=3) (v:=_) (by kernel_rfl) rfl (by kernel_rfl) (by kernel_rfl) (by kernel_rfl) (fun _ _ _ h=>h) (Or.inl ⟨by rfl,by (intro w hSw;(try dsimp only at hSw);go_simp<;>with_reducible rfl)⟩) (by assumption) ?_
     (try simp only [q1,q2,q3,Act.put,q4,q5,q6])
     refine heaw_take (i:=4) (v:=_) (by kernel_rfl) rfl (by kernel_rfl) (by kernel_rfl) (by kernel_rfl) (fun _ _ _ h=>h) (Or.inl ⟨by rfl,by (intro w hSw;(try dsimp only at hSw);go_simp<;>with_reducible rfl)⟩) (by assumption) ?_
     (try simp only [q1,q2,q3,Act.put,q4,q5,q6])
     refine heaw_take (i:=5) (v:=_) (by kernel_rfl) rfl (by kernel_rfl) (by kernel_rfl) (by kernel_rfl) (fun _ _ _ h=>h) (Or.inl ⟨by rfl,by (intro w hSw;(try dsimp only at hSw);go_simp<;>with_reducible rfl)⟩) (by assumption) ?_
     (try simp only [q1,q2,q3,Act.put,q4,q5,q6])
     refine heaw_next (i:=6) rfl (by kernel_rfl) (by kernel_rfl) (fun Kq hKq=>?_)
     (try simp only [q1,q2,q3])
     refine step_hold (a:=⟨_,_⟩) ?_
     go_simp
     (refine(l23Deeds_calls p s E P Q A B C Ad Au cp cq ca cb cc cd cu _ S ((HPQ.out.2.1.belowAll HD.out.1.b).belowAll ((Below.refl _ wr).drew)) (((HPQ.out.2.2.1.below HD.out.1.b).t).belowAll ((Below.refl _ wr).drew)) HK.out.2.1).mono ?_;rintro e w5 ⟨hres,hb5⟩;have hb5:Below wr.heap.size wr w5:=below_then ((Below.refl _ wr).drew) (Nat.le_refl _) hb5;have v0:=(hb5.cell (p:=⟨w.heap.size,0,none⟩) (by show w.heap.size<wr.heap.size;omega)).trans p0;have v1:=(hb5.cell (p:=⟨w.heap.size,1,none⟩) (by show w.heap.size<wr.heap.size;omega)).trans p1;have v2:=(hb5.cell (p:=⟨w.heap.size+1,0,none⟩) (by show w.heap.size+1<wr.heap.size;omega)).trans s0;have v3:=(hb5.cell (p:=⟨w.heap.size+1,1,none⟩) (by show w.heap.size+1<wr.heap.size;omega)).trans s1;have v4:=(hb5.cell (p:=⟨w.heap.size+1,2,none⟩) (by show w.heap.size+1<wr.heap.size;omega)).trans s2;have v5:=(hb5.cell (p:=⟨w.heap.size+1,3,none⟩) (by show w.heap.size+1<wr.heap.size;omega)).trans s3;have v6:=(hb5.cell (p:=⟨be,oe+n*6,none⟩) (by show be<wr.heap.size;omega)).trans e0;have v7:=(hb5.cell (p:=⟨be,oe+n*6+1,none⟩) (by show be<wr.heap.size;omega)).trans e1;have v8:=(hb5.cell (p:=⟨be,oe+n*6+2,none⟩) (by show be<wr.heap.size;omega)).trans e2;have v9:=(hb5.cell (p:=⟨be,oe+n*6+3,none⟩) (by show be<wr.heap.size;omega)).trans e3;have v10:=(hb5.cell (p:=⟨be,oe+n*6+4,none⟩) (by show be<wr.heap.size;omega)).trans e4;have v11:=(hb5.cell (p:=⟨be,oe+n*6+5,none⟩) (by show be<wr.heap.size;omega)).trans e5;obtain⟨x5,ok5,rfl,hno5,hyes5⟩:=resDeeds_open hres;have HB5:=Lib.hid hb5;have hz5:=hb5.size;have HQ5:=Lib.hid (And.intro hno5 hyes5);clear hres hno5 hyes5 hb5)
     refine hKq.out _ _ (by (try dsimp only)<;>(first | (go_keep;done) | (go_split_ands;exact⟨v0,v1,v2,v3,v4,v5,v6,v7,v8,v9,v10,v11⟩))) (fun hHeld=>?_)
     clear hKq Kq
     (try simp only [q1,q2,q3,Act.put,q4,q5,q6])
     refine heaw_done (by kernel_rfl) ?_
     refine wpAnyH_take (i:=7) (v:=_) rfl (by kernel_rfl) (by kernel_rfl) (by kernel_rfl) (fun _ _ _ h=>h) (Or.inl ⟨by rfl,by (intro w hSw;go_simp<;>with_reducible rfl)⟩) trivial ?_
     (try simp only [q1,q2,q3,Act.put,q4,q5,q6])
     refine wpAnyH_take (i:=8) (v:=_) rfl (by kernel_rfl) (by kernel_rfl) (by kernel_rfl) (fun _ _ _ h=>h) (Or.inl ⟨by rfl,by (intro w hSw;go_simp<;>with_reducible rfl)⟩) trivial ?_
     (try simp only [q1,q2,q3,Act.put,q4,q5,q6])
     refine wpAnyH_take (i:=9) (v:=_) rfl (by kernel_rfl) (by kernel_rfl) (by kernel_rfl) (fun _ _ _ h=>h) (Or.inl ⟨by rfl,by (intro w hSw;go_simp<;>with_reducible rfl)⟩) trivial ?_
     (try simp only [q1,q2,q3,Act.put,q4,q5,q6])
     refine wpAnyH_take (i:=10) (v:=_) rfl (by kernel_rfl) (by kernel_rfl) (by kernel_rfl) (fun _ _ _ h=>h) (Or.inl ⟨by rfl,by (intro w hSw;go_simp<;>with_reducible rfl)⟩) trivial ?_
     (try simp only [q1,q2,q3,Act.put,q4,q5,q6])
     refine wpAnyH_take (i:=11) (v:=_) rfl (by kernel_rfl) (by kernel_rfl) (by kernel_rfl) (fun _ _ _ h=>h) (Or.inl ⟨by rfl,by (intro w hSw;go_simp<;>with_reducible rfl)⟩) trivial ?_
     (try simp only [q1,q2,q3,Act.put,q4,q5,q6])
     refine wpAnyH_done (by kernel_rfl) (NoPanic.normal ?_) _
     clear e0 e1 e2 e3 e4 e5 p0 p1 s0 s1 s2 s3 v0 v1 v2 v3 v4 v5 v7 v8 v11 hHeld
     have HBW5:=Lib.hid (belowTwo HD.out.1.b hzr (Nat.le_refl _) HB5.out)
     have HBw5:=Lib.hid (belowTwo hbW hbW.size (Nat.le_refl _) HBW5.out)
     clear hb5
     cases ok5 with
     | false =>
      have HX:=Lib.hid (HR.out.trans (logDos_stop p s l _ _ n hlt HD.out.2.1 (by rw [← HE.out];exact logDo1_none (HQ5.out.1 rfl))))
      clear HR v6 v9 v10
      go_wp2
      go_ret3
      exact⟨by rw [HX.out];exact⟨_,_,rfl⟩,(HBw5.out.alloc HBw5.out.size _).alloc (by have:=HBw5.out.size;simp;omega) _⟩
     | true =>
      obtain⟨ds,D,cD,hds,rfl,hrD⟩:=HQ5.out.2 rfl
      obtain⟨ht0,ht1⟩:=entryDeeds_task hds
      obtain⟨hDr,hlog,hcl,hrs,hrc⟩:=HD.out
      have htl:E.task.toNat<rs.length:=by omega
      obtain⟨Az,cz,rz,rzf,_,hrz⟩:=Regs.at hDr.r (by rw [hrs]) htl
      have rz5:=(HB5.out.cell (p:=⟨gr,E.task.toNat,none⟩) (by have:=HD.out.1.b.size;show gr<wr.heap.size;have:=(Own.blk hDr.r gr rfl).2.1;exact this)).trans rz
      have hgrl:gr<wr.heap.size:=(Own.blk hDr.r gr rfl).2.1
      have hgr0:=(Own.blk hDr.r gr rfl).1
      have rzf5:=(HB5.out.frozen (p:=⟨gr,E.task.toNat,none⟩) hgrl).trans rzf
      have HA:=Lib.hid (And.intro (hrc.belowAll HB5.out) (And.intro (hrz.belowAll HB5.out) (hrD.belowAll (w':=w5) (below_two_drew HB5.out))))
      have HDS:=Lib.hid hds
      have HLOG:=Lib.hid hlog
      have HRS:=Lib.hid (And.intro hrs hcl)
      have HDR:=Lib.hid hDr
      have hput:Hid (∀ x ∈ E.puts,isI x.num):=Lib.hid (by have:=HK.out.2.2 _ (List.getElem_mem hlt);rw [← HE.out] at this;exact this)
      have HRZ:=Lib.hid (show rs.getD E.task.toNat []=rs[E.task.toNat] from regs_getD htl)
      have HR5:=Lib.hid (And.intro (HROW.out.d.belowAll HB5.out) (HROW.out.u.belowAll HB5.out))
      clear hds hlog hcl hrs hrc hrD hrz hDr rz rzf HPQ HD
      have hcs:c.length≤1000:=by rw [HRS.out.2];exact hc3
      cases hcd:changeDo c rs[E.task.toNat] ds with
      | none =>
       have HX:=Lib.hid (HR.out.trans (logDos_stop p s l _ _ n hlt HLOG.out (by rw [← HE.out];exact logDo1_fail HDS.out (by dsimp only;rw [HRZ.out];exact hcd))))
       have HCD:=Lib.hid hcd
       clear hcd HR
       go_wp2_with (go_at_call 37;go_must (refine(specChangeDo_calls c rs[E.task.toNat] ds Ac Az D cvc2 cz cD w5 _ _ _ HA.out.1 HA.out.2.1 HA.out.2.2).mono ?_;rintro e w6 ⟨hres,hb6⟩;rw [HCD.out] at hres;obtain⟨x6,y6,rfl,_⟩:=hres;have HBOK:=Lib.hid (belowTwo HBw5.out HBw5.out.size (Nat.le_refl _) hb6);clear hb6))
       go_ret3
       exact⟨by rw [HX.out];exact⟨_,_,rfl⟩,(HBOK.out.alloc HBOK.out.size _).alloc (by have:=HBOK.out.size;simp;omega) _⟩
      | some cr6 =>
       obtain⟨c6,r6⟩:=cr6
       have HCD:=Lib.hid hcd
       clear hcd
       cases hh:hasAll c E.reads with
       | false =>
        have HX:=Lib.hid (HR.out.trans (logDos_stop p s l _ _ n hlt HLOG.out (by rw [← HE.out];exact logDo1_no (x:=([],[])) HDS.out (by dsimp only;rw [HRZ.out];exact HCD.out) (by dsimp only;rw [hh];rfl))))
        have HH:=Lib.hid hh
        clear hh HR
        go_wp2_with (first | (go_at_call 37;go_must (refine(specChangeDo_calls c rs[E.task.toNat] ds Ac Az D cvc2 cz cD w5 _ _ _ HA.out.1 HA.out.2.1 HA.out.2.2).mono ?_;rintro e w6 ⟨hres,hb6⟩;rw [HCD.out] at hres;obtain⟨x6,y6,rfl,hx6,hy6,hxy⟩:=hres;have hz6:=hb6.size;have v9:=(hb6.cell (p:=⟨be,oe+n*6+3,none⟩) (by show be<w5.heap.size;omega)).trans v9;have HB6:=Lib.hid hb6;clear hb6 hx6 hy6)) | (go_at_call 38;go_must (refine(l13Has_calls c E.reads Ac Ad cvc2 cd w6 _ _ (HA.out.1.belowAll HB6.out) (HR5.out.1.belowAll HB6.out)).mono ?_;rintro e w7 ⟨rfl,hb7⟩;rw [HH.out];have HBOK:=Lib.hid (belowTwo (belowTwo HBw5.out HBw5.out.size (Nat.le_refl _) HB6.out) (Nat.le_trans HBw5.out.size hz6) (Nat.le_refl _) hb7);clear hb7)))
        go_ret3
        exact⟨by rw [HX.out];exact⟨_,_,rfl⟩,(HBOK.out.alloc HBOK.out.size _).alloc (by have:=HBOK.out.size;simp;omega) _⟩
       | true =>
        have HH:=Lib.hid hh
        clear hh
        have hgr5:gr<w5.heap.size:=by omega
        have hbe5:be<w5.heap.size:=by omega
        cases hq:decide (c6=putAll c E.puts) with
        | false =>
         have HX:=Lib.hid (HR.out.trans (logDos_stop p s l _ _ n hlt HLOG.out (by rw [← HE.out];exact logDo1_no (x:=([],[])) HDS.out (by dsimp only;rw [HRZ.out];exact HCD.out) (by dsimp only;rw [hq,HH.out];rfl))))
         have HEQ:=Lib.hid hq
         clear hq HR
         go_wp2_with (first | (go_at_call 37;go_must (refine(specChangeDo_calls c rs[E.task.toNat] ds Ac Az D cvc2 cz cD w5 _ _ _ HA.out.1 HA.out.2.1 HA.out.2.2).mono ?_;rintro e w6 ⟨hres,hb6⟩;rw [HCD.out] at hres;obtain⟨x6,y6,rfl,hx6,hy6,hxy⟩:=hres;have hz6:=hb6.size;have v6:=(hb6.cell (p:=⟨be,oe+n*6,none⟩) (by show be<w5.heap.size;omega)).trans v6;have v9:=(hb6.cell (p:=⟨be,oe+n*6+3,none⟩) (by show be<w5.heap.size;omega)).trans v9;have v10:=(hb6.cell (p:=⟨be,oe+n*6+4,none⟩) (by show be<w5.heap.size;omega)).trans v10;have rz5:=(hb6.cell (p:=⟨gr,E.task.toNat,none⟩) (by show gr<w5.heap.size;omega)).trans rz5;have rzf5:=(hb6.frozen (p:=⟨gr,E.task.toNat,none⟩) (by show gr<w5.heap.size;omega)).trans rzf5;obtain⟨A6,d6,rfl,_,hr6⟩:=hx6.row;obtain⟨A7,d7,rfl,_,hr7⟩:=hy6.row;have HB6:=Lib.hid hb6;have HX6:=Lib.hid (And.intro hx6 (And.intro hy6 hr6));clear hb6 hx6 hy6 hxy hr6 hr7)) | (go_at_call 38;go_must (refine(l13Has_calls c E.reads Ac Ad cvc2 cd w6 _ _ (HA.out.1.belowAll HB6.out) (HR5.out.1.belowAll HB6.out)).mono ?_;rintro e w7 ⟨rfl,hb7⟩;rw [HH.out];have hz7:=hb7.size;have v6:=(hb7.cell (p:=⟨be,oe+n*6,none⟩) (by show be<w6.heap.size;omega)).trans v6;have v9:=(hb7.cell (p:=⟨be,oe+n*6+3,none⟩) (by show be<w6.heap.size;omega)).trans v9;have v10:=(hb7.cell (p:=⟨be,oe+n*6+4,none⟩) (by show be<w6.heap.size;omega)).trans v10;have rz5:=(hb7.cell (p:=⟨gr,E.task.toNat,none⟩) (by show gr<w6.heap.size;omega)).trans rz5;have rzf5:=(hb7.frozen (p:=⟨gr,E.task.toNat,none⟩) (by show gr<w6.heap.size;omega)).trans rzf5;have HB7:=Lib.hid (belowTwo HB6.out hz6 (Nat.le_refl _) hb7);have HB67:=Lib.hid hb7;clear hb7)) | (go_at_call 40;go_must (refine(l13Puts_calls c E.puts Ac Au cvc2 cu w7 _ _ (HA.out.1.belowAll HB7.out) (HR5.out.2.belowAll HB7.out) hput.out hcs).mono ?_;rintro e w8 ⟨v8,rfl,hv8,hb8⟩;have hz8:=hb8.size;have v6:=(hb8.cell (p:=⟨be,oe+n*6,none⟩) (by show be<w7.heap.size;omega)).trans v6;have v9:=(hb8.cell (p:=⟨be,oe+n*6+3,none⟩) (by show be<w7.heap.size;omega)).trans v9;have v10:=(hb8.cell (p:=⟨be,oe+n*6+4,none⟩) (by show be<w7.heap.size;omega)).trans v10;have rz5:=(hb8.cell (p:=⟨gr,E.task.toNat,none⟩) (by show gr<w7.heap.size;omega)).trans rz5;have rzf5:=(hb8.frozen (p:=⟨gr,E.task.toNat,none⟩) (by show gr<w7.heap.size;omega)).trans rzf5;obtain⟨A8,d8,rfl,_,hr8⟩:=hv8.row;have HR8:=Lib.hid hr8;have HB8:=Lib.hid (belowTwo HB7.out (by omega) (Nat.le_refl _) hb8);have HB68:=Lib.hid (belowTwo HB67.out hz7 (Nat.le_refl _) hb8);clear hb8 hv8 hr8)) | (go_at_call 39;go_must (refine(l23Same_calls c6 (putAll c E.puts) A6 A8 d6 d8 w8 _ _ (HX6.out.2.2.belowAll HB68.out) HR8.out).mono ?_;rintro e w9 ⟨rfl,hb9⟩;rw [HEQ.out];have hz9:=hb9.size;have v6:=(hb9.cell (p:=⟨be,oe+n*6,none⟩) (by show be<w8.heap.size;omega)).trans v6;have v9:=(hb9.cell (p:=⟨be,oe+n*6+3,none⟩) (by show be<w8.heap.size;omega)).trans v9;have v10:=(hb9.cell (p:=⟨be,oe+n*6+4,none⟩) (by show be<w8.heap.size;omega)).trans v10;have rz5:=(hb9.cell (p:=⟨gr,E.task.toNat,none⟩) (by show gr<w8.heap.size;omega)).trans rz5;have rzf5:=(hb9.frozen (p:=⟨gr,E.task.toNat,none⟩) (by show gr<w8.heap.size;omega)).trans rzf5;have HB9:=Lib.hid (belowTwo HB8.out (by omega) (Nat.le_refl _) hb9);have HB69:=Lib.hid (belowTwo HB68.out (by omega) (Nat.le_refl _) hb9);have HBOK:=Lib.hid (belowTwo HBw5.out HBw5.out.size (Nat.le_refl _) HB9.out);clear hb9)))
         go_ret3
         exact⟨by rw [HX.out];exact⟨_,_,rfl⟩,(HBOK.out.alloc HBOK.out.size _).alloc (by have:=HBOK.out.size;simp;omega) _⟩
        | true =>
         have HNX:=Lib.hid (logDos_next p s l _ _ _ n hlt HLOG.out (by rw [← HE.out];exact logDo1_yes (x:=([],[])) HDS.out (by dsimp only;rw [HRZ.out];exact HCD.out) HH.out (by simpa using hq)))
         have HC6:Hid (c6.length=c.length):=Lib.hid (by have h9:c6=putAll c E.puts:=(by simpa using hq);rw [h9];exact putAll_len _ _)
         have HEQ:=Lib.hid hq
         clear hq
         have ht1':E.task<(s.tasks.length:Int):=ht1
         go_wp2_with (first | (go_at_call 37;go_must (refine(specChangeDo_calls c rs[E.task.toNat] ds Ac Az D cvc2 cz cD w5 _ _ _ HA.out.1 HA.out.2.1 HA.out.2.2).mono ?_;rintro e w6 ⟨hres,hb6⟩;rw [HCD.out] at hres;obtain⟨x6,y6,rfl,hx6,hy6,hxy⟩:=hres;have hz6:=hb6.size;have v6:=(hb6.cell (p:=⟨be,oe+n*6,none⟩) (by show be<w5.heap.size;omega)).trans v6;have v9:=(hb6.cell (p:=⟨be,oe+n*6+3,none⟩) (by show be<w5.heap.size;omega)).trans v9;have v10:=(hb6.cell (p:=⟨be,oe+n*6+4,none⟩) (by show be<w5.heap.size;omega)).trans v10;have rz5:=(hb6.cell (p:=⟨gr,E.task.toNat,none⟩) (by show gr<w5.heap.size;omega)).trans rz5;have rzf5:=(hb6.frozen (p:=⟨gr,E.task.toNat,none⟩) (by show gr<w5.heap.size;omega)).trans rzf5;obtain⟨A6,d6,rfl,_,hr6⟩:=hx6.row;obtain⟨A7,d7,rfl,_,hr7⟩:=hy6.row;have HB6:=Lib.hid hb6;have HX6:=Lib.hid (And.intro hx6 (And.intro hy6 hr6));clear hb6 hx6 hy6 hxy hr6 hr7)) | (go_at_call 38;go_must (refine(l13Has_calls c E.reads Ac Ad cvc2 cd w6 _ _ (HA.out.1.belowAll HB6.out) (HR5.out.1.belowAll HB6.out)).mono ?_;rintro e w7 ⟨rfl,hb7⟩;rw [HH.out];have hz7:=hb7.size;have v6:=(hb7.cell (p:=⟨be,oe+n*6,none⟩) (by show be<w6.heap.size;omega)).trans v6;have v9:=(hb7.cell (p:=⟨be,oe+n*6+3,none⟩) (by show be<w6.heap.size;omega)).trans v9;have v10:=(hb7.cell (p:=⟨be,oe+n*6+4,none⟩) (by show be<w6.heap.size;omega)).trans v10;have rz5:=(hb7.cell (p:=⟨gr,E.task.toNat,none⟩) (by show gr<w6.heap.size;omega)).trans rz5;have rzf5:=(hb7.frozen (p:=⟨gr,E.task.toNat,none⟩) (by show gr<w6.heap.size;omega)).trans rzf5;have HB7:=Lib.hid (belowTwo HB6.out hz6 (Nat.le_refl _) hb7);have HB67:=Lib.hid hb7;clear hb7)) | (go_at_call 40;go_must (refine(l13Puts_calls c E.puts Ac Au cvc2 cu w7 _ _ (HA.out.1.belowAll HB7.out) (HR5.out.2.belowAll HB7.out) hput.out hcs).mono ?_;rintro e w8 ⟨v8,rfl,hv8,hb8⟩;have hz8:=hb8.size;have v6:=(hb8.cell (p:=⟨be,oe+n*6,none⟩) (by show be<w7.heap.size;omega)).trans v6;have v9:=(hb8.cell (p:=⟨be,oe+n*6+3,none⟩) (by show be<w7.heap.size;omega)).trans v9;have v10:=(hb8.cell (p:=⟨be,oe+n*6+4,none⟩) (by show be<w7.heap.size;omega)).trans v10;have rz5:=(hb8.cell (p:=⟨gr,E.task.toNat,none⟩) (by show gr<w7.heap.size;omega)).trans rz5;have rzf5:=(hb8.frozen (p:=⟨gr,E.task.toNat,none⟩) (by show gr<w7.heap.size;omega)).trans rzf5;obtain⟨A8,d8,rfl,_,hr8⟩:=hv8.row;have HR8:=Lib.hid hr8;have HB8:=Lib.hid (belowTwo HB7.out (by omega) (Nat.le_refl _) hb8);have HB68:=Lib.hid (belowTwo HB67.out hz7 (Nat.le_refl _) hb8);clear hb8 hv8 hr8)) | (go_at_call 39;go_must (refine(l23Same_calls c6 (putAll c E.puts) A6 A8 d6 d8 w8 _ _ (HX6.out.2.2.belowAll HB68.out) HR8.out).mono ?_;rintro e w9 ⟨rfl,hb9⟩;rw [HEQ.out];have hz9:=hb9.size;have v6:=(hb9.cell (p:=⟨be,oe+n*6,none⟩) (by show be<w8.heap.size;omega)).trans v6;have v9:=(hb9.cell (p:=⟨be,oe+n*6+3,none⟩) (by show be<w8.heap.size;omega)).trans v9;have v10:=(hb9.cell (p:=⟨be,oe+n*6+4,none⟩) (by show be<w8.heap.size;omega)).trans v10;have rz5:=(hb9.cell (p:=⟨gr,E.task.toNat,none⟩) (by show gr<w8.heap.size;omega)).trans rz5;have rzf5:=(hb9.frozen (p:=⟨gr,E.task.toNat,none⟩) (by show gr<w8.heap.size;omega)).trans rzf5;have HB9:=Lib.hid (belowTwo HB8.out (by omega) (Nat.le_refl _) hb9);have HB69:=Lib.hid (belowTwo HB68.out (by omega) (Nat.le_refl _) hb9);have HBOK:=Lib.hid (belowTwo HBw5.out HBw5.out.size (Nat.le_refl _) HB9.out);clear hb9)))
         have HBW9:=Lib.hid (belowTwo HB5.out hz5 (Nat.le_refl _) HB9.out)
         have hx:=(HX6.out.1.belowAll HB69.out).lower (base':=W.heap.size) (by omega)
         have hy:=(HX6.out.2.1.belowAll HB69.out).lower (base':=W.heap.size) (by omega)
         refine⟨⟨n+1,c6,rs.set E.task.toNat r6,by omega,by go_num,HNX.out,⟨Regs.set (HDR.out.r.belowAll HBW9.out) (by rw [HRS.out.1]) htl hy (fun e=>by have:=(HX6.out.2.1.blk _ e).1;omega),hx.far (p:=⟨gr,E.task.toNat,none⟩) (fun k e=>by have:=(HX6.out.1.blk k e).1;show k≠gr;omega) _,fun k e e2=>by have:=(HX6.out.1.blk k e).1;simp [Value.ownBlock] at e2;omega,(belowTwo HDR.out.b hzr (Nat.le_refl _) HBW9.out).setCell (p:=⟨gr,E.task.toNat,none⟩) hgr0 _⟩,by rw [HC6.out];exact HRS.out.2,by rw [List.length_set];exact HRS.out.1⟩,by simp [intOf];omega⟩
    ·obtain rfl:n=l.length:=by omega
     have hlt':¬ ((l.length:Int)<l.length):=by omega
     obtain⟨hDr,hlog,hq1,hrs,hq2⟩:=HD.out
     clear hq1 hq2
     rw [List.take_length] at hlog
     have HX:=Lib.hid (HR.out.trans hlog)
     have HBw:=Lib.hid (belowTwo hbW hbW.size (Nat.le_refl _) hDr.b)
     have HDX:=HD
     clear HR hlog hDr hrs HD
     go_wp2
     go_ret3
     obtain⟨hDr,_⟩:=HDX.out
     exact⟨by rw [HX.out];exact⟨.slice Ac c.length cvc2,.slice (some ⟨gr,0,none⟩) s.tasks.length cv,rfl,hDr.c.lower (base':=w.heap.size) hbW.size,(Own.lower (base':=w.heap.size) hbW.size hDr.r).mono fun k (hk:W.heap.size≤k)=>Nat.le_trans hbW.size hk⟩,HBw.out⟩
end Go.Proofs.YtjacjafmimgfcaaGreat
