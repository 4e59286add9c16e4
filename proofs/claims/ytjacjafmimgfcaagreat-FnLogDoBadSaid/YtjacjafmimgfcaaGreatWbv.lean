/- The program's LogDo, for a system in order. -/
import Derived.Deep.RegionHeld3
import Derived.Test.YtjacjafmimgfcaaGreatWbu
set_option linter.unusedVariables false
set_option linter.unusedSimpArgs false
namespace Go.Proofs.YtjacjafmimgfcaaGreat
open Go.RowKit
attribute [local go_sem ↓] Go.wp_at_zero Go.wp_at_succ
theorem mkR1 (w:World):(Instr.makeSlice 34 (.int .i64 1) (.int .i64 1)).run Tryz.prog w=.ok (.slice (some ⟨w.heap.size,0,none⟩) 1 1) (w.alloc (.cells #[.slice none 0 0] 22)):=by kernel_rfl
theorem mkR2 (w:World):(Instr.makeSlice 34 (.int .i64 2) (.int .i64 2)).run Tryz.prog w=.ok (.slice (some ⟨w.heap.size,0,none⟩) 2 2) (w.alloc (.cells #[.slice none 0 0,.slice none 0 0] 22)):=by kernel_rfl
theorem mkR3 (w:World):(Instr.makeSlice 34 (.int .i64 3) (.int .i64 3)).run Tryz.prog w=.ok (.slice (some ⟨w.heap.size,0,none⟩) 3 3) (w.alloc (.cells #[.slice none 0 0,.slice none 0 0,.slice none 0 0] 22)):=by kernel_rfl
theorem mkR4 (w:World):(Instr.makeSlice 34 (.int .i64 4) (.int .i64 4)).run Tryz.prog w=.ok (.slice (some ⟨w.heap.size,0,none⟩) 4 4) (w.alloc (.cells #[.slice none 0 0,.slice none 0 0,.slice none 0 0,.slice none 0 0] 22)):=by kernel_rfl
theorem mkR5 (w:World):(Instr.makeSlice 34 (.int .i64 5) (.int .i64 5)).run Tryz.prog w=.ok (.slice (some ⟨w.heap.size,0,none⟩) 5 5) (w.alloc (.cells #[.slice none 0 0,.slice none 0 0,.slice none 0 0,.slice none 0 0,.slice none 0 0] 22)):=by kernel_rfl
theorem mkR6 (w:World):(Instr.makeSlice 34 (.int .i64 6) (.int .i64 6)).run Tryz.prog w=.ok (.slice (some ⟨w.heap.size,0,none⟩) 6 6) (w.alloc (.cells #[.slice none 0 0,.slice none 0 0,.slice none 0 0,.slice none 0 0,.slice none 0 0,.slice none 0 0] 22)):=by kernel_rfl
theorem mkR7 (w:World):(Instr.makeSlice 34 (.int .i64 7) (.int .i64 7)).run Tryz.prog w=.ok (.slice (some ⟨w.heap.size,0,none⟩) 7 7) (w.alloc (.cells #[.slice none 0 0,.slice none 0 0,.slice none 0 0,.slice none 0 0,.slice none 0 0,.slice none 0 0,.slice none 0 0] 22)):=by kernel_rfl
theorem mkRegs (w:World)(n:Nat)(h1:1≤n)(h7:n≤7):(Instr.makeSlice 34 (.int .i64 n) (.int .i64 n)).run Tryz.prog w=.ok (.slice (some ⟨w.heap.size,0,none⟩) n n) (w.alloc (.cells (List.replicate n (.slice none 0 0)).toArray 22)):=by
 have:n=1∨n=2∨n=3∨n=4∨n=5∨n=6∨n=7:=by omega
 rcases this with rfl | rfl | rfl | rfl | rfl | rfl | rfl
 ·exact mkR1 w
 ·exact mkR2 w
 ·exact mkR3 w
 ·exact mkR4 w
 ·exact mkR5 w
 ·exact mkR6 w
 ·exact mkR7 w
theorem regs_nil (w:World)(n B:Nat)(hB:B≤w.heap.size)(h7:n≤7):Regs (w.alloc (.cells (List.replicate n (.slice none 0 0)).toArray 22)) B (.slice (some ⟨w.heap.size,0,none⟩) n n) (List.replicate n []):=by
 refine own_intro (List.replicate n [.slice none 0 0]) ?_ (by simp) (fun k hk=>by simp [Value.ownBlock] at hk;omega) (fun j x hj=>?_)
 ·have hf:(List.replicate n [Value.slice none 0 0]).flatten=List.replicate n (.slice none 0 0):=by induction n with | zero=>rfl | succ n ih=>rw [List.replicate_succ,List.flatten_cons,ih (by omega),List.replicate_succ];rfl
  rw [hf]
  refine⟨by simp [Kd.slice],.inr ⟨w.heap.size,n,_,by simp,hB,heap_alloc_new w _,by simp,by simp [maxLen];omega,by simp [Kd.slice],by rw [show (Kd.slice Kd.int).sz=1 from rfl];simp⟩⟩
 ·have hj2:=(List.getElem?_eq_some_iff.1 hj).1
  simp at hj2
  have hx:x=[]:=by have:=(List.getElem?_eq_some_iff.1 hj).2;simpa using this.symm
  subst hx
  exact⟨[.slice none 0 0],by simp [hj2],none,0,rfl,Nat.le_refl _,by simp,fun h=>absurd rfl h⟩
theorem Done9.below {w0 w w':World}{vr vc:Value}{c:List Int}{rs:List (List Int)}(h:Done9 w0 vr c rs vc w)(hb:Below w.heap.size w w'):Done9 w0 vr c rs vc w':=⟨Own.belowAll h.r hb,h.c.belowAll hb,h.a,belowTwo h.b h.b.size (Nat.le_refl _) hb⟩
structure Made10 (w0:World) (vc:Value) (c:List Int) (g n j:Nat) (wr:World):Prop where
 r:∃ rs,Regs wr w0.heap.size (.slice (some ⟨g,0,none⟩) n n) rs∧rs.length=n∧∀ i,i<j→rs[i]?=some [0,0,0]
 c:OwnI 3 wr w0.heap.size vc c
 a:∀ k,vc.ownBlock=some k→k≠g
 b:Below w0.heap.size w0 wr
theorem Made10.next {w0 wr:World}{vc:Value}{c:List Int}{g n j:Nat}(h:Made10 w0 vc c g n j wr)(hj:j<n):Made10 w0 vc c g n (j+1) ((wr.alloc (.cells #[.int .i64 0,.int .i64 0,.int .i64 0] 3)).setCell ⟨g,j,none⟩ (.slice (some ⟨wr.heap.size,0,none⟩) 3 3)):=by
 obtain⟨rs,h1,h2,h3⟩:=h.r
 have hg:=Own.blk h1 g rfl
 have hsz:=h.b.size
 refine⟨⟨rs.set j [0,0,0],Regs.set (h1.belowAll (alB wr _)) h2.symm (by omega) (ownI_zeros' wr w0.heap.size h.b.size) (fun e=>by simp [Value.ownBlock] at e;omega),by simpa using h2,fun i hi=>?_⟩,(h.c.belowAll (alB wr _)).far (p:=⟨g,j,none⟩) (fun k e=>h.a k e) _,h.a,(h.b.alloc h.b.size _).setCell (p:=⟨g,j,none⟩) hg.1 _⟩
 by_cases e:i=j
 ·subst e;rw [List.getElem?_set_self (by omega)]
 ·rw [List.getElem?_set_ne (by omega)];exact h3 i (by omega)
theorem Made10.done {w0 wr:World}{vc:Value}{c:List Int}{g n:Nat}(h:Made10 w0 vc c g n n wr):Done9 w0 (.slice (some ⟨g,0,none⟩) n n) c (List.replicate n [0,0,0]) vc wr:=by
 obtain⟨rs,h1,h2,h3⟩:=h.r
 have e:rs=List.replicate n [0,0,0]:=by
  refine List.ext_getElem? fun i=>?_
  by_cases hi:i<n
  ·rw [h3 i hi];simp [hi]
  ·rw [List.getElem?_eq_none (by omega),List.getElem?_eq_none (by simp;omega)]
 subst e
 exact⟨h1,h.c,fun k e e2=>h.a k e (by simp [Value.ownBlock] at e2;exact e2.symm),h.b⟩
theorem logDo1_has {p:Prog}{s:Sys}{cr:List Int × List (List Int)}{e:Entry}(h:hasAll cr.1 e.reads=false):logDo1 p s cr e=none:=by
 unfold logDo1
 split
 ·rfl
 ·split
  ·rfl
  ·rw [if_neg (by rw [h];simp)]
set_option maxHeartbeats 4000000 in
set_option maxRecDepth 100000 in
theorem implLogDo_good (p:Prog)(s:Sys)(l:List Entry)(P Q A B C L:Option Addr)(cp cq ca cb cc cl:Nat)(w:World)(S:Nat→Prop)(hP:Row Kd.int w S P p.cells)(hQ:Row (Kd.slice kAct) w S Q p.bodies)(hS:SysR w S s A B C)(hL:Row kEntry w S L l)(hSS:∀ k,S k→k<w.heap.size)(hi:∀ e ∈ l,∀ x ∈ e.puts,isI x.num)(hok:sysOk p s=true) :
  Calls Tryz.prog 14 #[.agg #[.slice P p.cells.length cp,.slice Q p.bodies.length cq],.agg #[.slice A s.cells.length ca,.slice B s.tasks.length cb,.int .i64 s.clock,.slice C s.log.length cc],.slice L l.length cl] w fun e w'=>ResLogDo (logDo p s l) w.heap.size e w'∧Below w.heap.size w w':=by
 obtain⟨hbody,hn1,hn7,hclx,hc3,hpok⟩:=sysOk_use hok
 obtain⟨W,HW⟩:∃ W,W=(w.alloc (.cells #[.slice P p.cells.length cp,.slice Q p.bodies.length cq] 39)).alloc (.cells #[.slice A s.cells.length ca,.slice B s.tasks.length cb,.int .i64 s.clock,.slice C s.log.length cc] 45):=⟨_,rfl⟩
 have hbW:Below w.heap.size w W:=by rw [HW];exact(alB w _).alloc (by simp) _
 have hz:W.heap.size=w.heap.size+1+1:=by rw [HW];simp
 have hW0:W.heap[w.heap.size]?=some (.cells #[.slice P p.cells.length cp,.slice Q p.bodies.length cq] 39 (0,0)):=by
  rw [HW];exact((alB _ _).block _ (by simp)).trans (heap_alloc_new _ _)
 have hW1:W.heap[w.heap.size+1]?=some (.cells #[.slice A s.cells.length ca,.slice B s.tasks.length cb,.int .i64 s.clock,.slice C s.log.length cc] 45 (0,0)):=by
  rw [HW]
  have h1:=heap_alloc_new (w.alloc (.cells #[.slice P p.cells.length cp,.slice Q p.bodies.length cq] 39)) (.cells #[.slice A s.cells.length ca,.slice B s.tasks.length cb,.int .i64 s.clock,.slice C s.log.length cc] 45 (0,0))
  simp only [World.size_alloc] at h1
  exact h1
 have HR:Hid (logDo p s l=logDos p s (p.cells,List.replicate s.tasks.length [0,0,0]) l):=Lib.hid (by unfold logDo;rw [if_pos hok])
 have HK:=Lib.hid (And.intro hok (And.intro hbody hi))
 have HPQ:=Lib.hid (And.intro (hP.belowAll hbW) (And.intro (hQ.belowAll hbW) (And.intro (hS.below hbW) (hL.belowAll hbW))))
 have hlm:=hL.1
 have hmk:=mk3s
 have HW01:=Lib.hid (And.intro hW0 hW1)
 clear hP hQ hS hL hok hbody hi hpok hclx
 have box:∀ wr,Below W.heap.size W wr→Hid (wr.heap[w.heap.size]?=some (.cells #[.slice P p.cells.length cp,.slice Q p.bodies.length cq] 39 (0,0))∧wr.heap[w.heap.size+1]?=some (.cells #[.slice A s.cells.length ca,.slice B s.tasks.length cb,.int .i64 s.clock,.slice C s.log.length cc] 45 (0,0))):=fun wr hb=>Lib.hid ⟨(hb.block _ (by omega)).trans HW01.out.1,(hb.block _ (by omega)).trans HW01.out.2⟩
 have HBOX:=Lib.hid box
 clear box hW0 hW1
 have HMK:=Lib.hid (fun w=>mkRegs w s.tasks.length hn1 hn7)
 have hmk9:=HMK.out
 clear HMK
 go_enter Tryz.func14,Tryz.ntmps14
 go_wp2_with (first | (go_at_call 46;go_must (rw [← HW];refine(implSysOk_calls p s P Q A B C cp cq ca cb cc W S HPQ.out.1 HPQ.out.2.1 HPQ.out.2.2.1).mono ?_;rintro e w2 ⟨rfl,hb2⟩;rw [HK.out.1];have hz2:=hb2.size;have hlt2:w.heap.size<w2.heap.size:=(by omega);obtain⟨b0,b1⟩:=(HBOX.out w2 hb2).out;have i0:=cell_of_row _ _ 0 _ _ _ b0;simp at i0;clear b0 b1)) | (go_at_call 47;go_must (refine(cloneInt_calls p.cells P cp w2 _ (HPQ.out.1.belowAll hb2) (by omega)).mono ?_;rintro e w3 ⟨vc,rfl,hoc,hbc⟩;have hz3:=hbc.size;have HC3:=Lib.hid hoc;have HB3:=Lib.hid (belowTwo hb2 hz2 (Nat.le_refl _) hbc);obtain⟨b0,b1⟩:=(HBOX.out w3 HB3.out).out;have j1:=cell_of_row _ _ 1 _ _ _ b1;simp at j1;clear b0 b1 hoc hbc hb2 i0)))
 have HM0:Hid (Made10 W vc p.cells w3.heap.size s.tasks.length 0 (w3.alloc (.cells (List.replicate s.tasks.length (.slice none 0 0)).toArray 22))):=Lib.hid
  ⟨⟨_,regs_nil w3 s.tasks.length W.heap.size (by omega) hn7,by simp,fun i hi=>by omega⟩,(HC3.out.lower (by omega)).belowAll (alB w3 _),fun k e e2=>by have:=(HC3.out.blk k e).2;omega,HB3.out.alloc HB3.out.size _⟩
 obtain⟨Avc,cvc,rfl,_⟩:=HC3.out.row
 obtain⟨gr,hgr⟩:∃ gr,gr=w3.heap.size:=⟨_,rfl⟩
 have hgrW:W.heap.size≤gr:=by omega
 rw [← hgr] at HM0
 rw [← hgr]
 have HGR:=Lib.hid hgr
 clear HC3 hmk9 hgr
 go_loopw [11,32] (fun x11 i wr=>∃ n:Nat,n≤s.tasks.length∧i=.int .i64 n∧Made10 W (.slice Avc p.cells.length cvc) p.cells gr s.tasks.length n wr) (fun x11 i _=>s.tasks.length-(intOf i).toNat)
 case atStart=>exact⟨0,Nat.zero_le _,rfl,HM0.out⟩
 case round =>
  clear HM0
  obtain⟨n,hnl,rfl,hM⟩:=hrel
  by_cases hlt:n<s.tasks.length
  ·have hlt':(n:Int)<s.tasks.length:=by omega
   have hn0:(0:Int)≤n:=by omega
   have hfz:wr.frozen? ⟨gr,n,none⟩=false∧∃ u,wr.cell? ⟨gr,n,none⟩=some u:=by
    obtain⟨rs,h1,h2,_⟩:=hM.r
    obtain⟨A9,c9,h3,h4,_⟩:=Regs.at h1 h2.symm (j:=n) (by omega)
    exact⟨h4,_,h3⟩
   obtain⟨hf,u,hu⟩:=hfz
   have hgl:gr<wr.heap.size:=by obtain⟨rs,h1,_⟩:=hM.r;exact(Own.blk h1 gr rfl).2.1
   have hN:=Made10.next hM hlt
   rw [World.setCell_alloc_past _ gr n _ hgl] at hN
   have HN:=Lib.hid hN
   clear hN
   clear hM
   go_wp2_with fail
   exact⟨⟨n+1,by omega,by go_num,HN.out⟩,by simp [intOf];omega⟩
  ·obtain rfl:n=s.tasks.length:=by omega
   have HD:=Lib.hid hM.done
   clear hM hnl hlt
   go_wp2_with fail
   go_loopw [9,13,14,15,16,17,18,42] (fun v9 x13 x14 x15 x16 x17 x18 i wr=>∃ (n:Nat) (c:List Int) (rs:List (List Int)),n≤l.length∧i=.int .i64 n∧logDos p s (p.cells,List.replicate s.tasks.length [0,0,0]) (l.take n)=some (c,rs)∧Done9 W (.slice (some ⟨gr,0,none⟩) s.tasks.length s.tasks.length) c rs v9 wr∧c.length=p.cells.length∧rs.length=s.tasks.length) (fun v9 x13 x14 x15 x16 x17 x18 i _=>l.length-(intOf i).toNat)
   case atStart=>exact⟨0,p.cells,List.replicate s.tasks.length [0,0,0],Nat.zero_le _,rfl,rfl,HD.out,rfl,by simp⟩
   case round =>
    clear HD
    obtain⟨n,c,rs,hnl,rfl,hlog,hD,hc,hrs⟩:=hrel
    have hzr:=hD.b.size
    obtain⟨Ac,cvc2,hv9,hcv2,hrc⟩:=hD.c.row
    subst hv9
    have HD:=Lib.hid (And.intro hD (And.intro hlog (And.intro hc (And.intro hrs hrc))))
    clear hD hlog hc hrs hrc hcv2
    by_cases hlt:n<l.length
    ·have hlt':(n:Int)<l.length:=by omega
     have hn0:(0:Int)≤n:=by omega
     obtain⟨b0,b1⟩:=(HBOX.out wr HD.out.1.b).out
     have p0:=cell_of_row _ _ 0 _ _ _ b0
     have p1:=cell_of_row _ _ 1 _ _ _ b0
     have s0:=cell_of_row _ _ 0 _ _ _ b1
     have s1:=cell_of_row _ _ 1 _ _ _ b1
     have s2:=cell_of_row _ _ 2 _ _ _ b1
     have s3:=cell_of_row _ _ 3 _ _ _ b1
     simp at p0 p1 s0 s1 s2 s3
     clear b0 b1
     have hltr:w.heap.size+1<wr.heap.size:=by omega
     have hltr0:w.heap.size<wr.heap.size:=by omega
     obtain⟨be,oe,Ad,Au,cd,cu,eL,hbe,hSe,hrow,hat⟩:=litEntry (HPQ.out.2.2.2.belowAll HD.out.1.b) hlt
     subst eL
     have e0:=hat.c0
     have e1:=hat.c1
     have e2:=hat.c2
     have e3:=hat.c3
     have e4:=hat.c4
     have e5:=hat.c5
     dsimp only at e1 e2 e3 e4 e5
     obtain⟨E,hE⟩:∃ E,E=l[n]:=⟨_,rfl⟩
     rw [← hE] at e0 e1 e2 e3 e4 e5 hrow
     have HE:=Lib.hid hE
     have HROW:=Lib.hid hrow
     clear hat hE hrow
     obtain⟨ke,hke⟩:∃ ke,ke=wr.heap.size:=⟨_,rfl⟩
     obtain⟨X,hX⟩:∃ X,X=wr.alloc (.cells #[.int .i64 E.task,.int .i64 E.act,.int .i64 E.whn,.slice Ad E.reads.length cd,.slice Au E.puts.length cu,.int .i64 E.frm] 68):=⟨_,rfl⟩
     have hbX:Below wr.heap.size wr X:=by rw [hX];exact alB wr _
     have hzX:X.heap.size=wr.heap.size+1:=by rw [hX];simp
     have HXE:=Lib.hid (show X.heap[ke]?=some (.cells #[.int .i64 E.task,.int .i64 E.act,.int .i64 E.whn,.slice Ad E.reads.length cd,.slice Au E.puts.length cu,.int .i64 E.frm] 68 (0,0)) from by rw [hX,hke];exact heap_alloc_new wr _)
     have HX0:=Lib.hid hX
     have HBX:=Lib.hid hbX
     have hput:Hid (∀ x ∈ E.puts,isI x.num):=Lib.hid (by have:=HK.out.2.2 _ (List.getElem_mem hlt);rw [← HE.out] at this;exact this)
     have HBWX:=Lib.hid (belowTwo HD.out.1.b hzr (Nat.le_refl _) hbX)
     clear hX hbX
     cases hd:entryDeeds p s E with
     | none =>
      have HX:=Lib.hid (HR.out.trans (logDos_stop p s l _ _ n hlt HD.out.2.1 (by rw [← HE.out];exact logDo1_none hd)))
      have HDN:=Lib.hid hd
      clear hd HR
      go_wp2_with (go_at_call 48;go_must (rw [← HX0.out];refine(tryOf_calls p s E P Q A B C Ad Au cp cq ca cb cc cd cu X S ((HPQ.out.2.1.belowAll HD.out.1.b).belowAll HBX.out) (((HPQ.out.2.2.1.below HD.out.1.b).t).belowAll HBX.out) HK.out.2.1).mono ?_;rintro e w5 ⟨hres,hb5⟩;rw [HDN.out] at hres;obtain⟨v5,rfl⟩:=hres;have HBOK:=Lib.hid (belowTwo hbW hbW.size (Nat.le_refl _) (belowTwo HBWX.out (by omega) (Nat.le_refl _) hb5));clear hb5))
      go_ret3
      exact⟨by rw [HX.out];exact⟨_,_,rfl⟩,HBOK.out⟩
     | some ds =>
      obtain⟨ht0,ht1⟩:=entryDeeds_task hd
      obtain⟨hDr,hlog,hcl,hrs,hrc⟩:=HD.out
      have htl:E.task.toNat<rs.length:=by omega
      obtain⟨Az,cz,rz,rzf,_,hrz⟩:=Regs.at hDr.r (by rw [hrs]) htl
      have hgrl:gr<wr.heap.size:=(Own.blk hDr.r gr rfl).2.1
      have rz5:=(HBX.out.cell (p:=⟨gr,E.task.toNat,none⟩) hgrl).trans rz
      have rzf5:=(HBX.out.frozen (p:=⟨gr,E.task.toNat,none⟩) hgrl).trans rzf
      subst hke
      have v6:=cell_of_row _ _ 0 _ _ _ HXE.out
      have v9:=cell_of_row _ _ 3 _ _ _ HXE.out
      have v10:=cell_of_row _ _ 4 _ _ _ HXE.out
      simp at v6 v9 v10
      have HA:=Lib.hid (And.intro hrc hrz)
      have HDS:=Lib.hid hd
      have HLOG:=Lib.hid hlog
      have HRS:=Lib.hid (And.intro hrs hcl)
      have HDR:=Lib.hid hDr
      have HDB:=Lib.hid hDr.b
      have HRZ:=Lib.hid (show rs.getD E.task.toNat []=rs[E.task.toNat] from regs_getD htl)
      have HR5:=Lib.hid (And.intro HROW.out.d HROW.out.u)
      clear hd hlog hcl hrs hrc hrz hDr rz rzf HD
      have hcs:c.length≤1000:=by rw [HRS.out.2];exact hc3
      cases hh:hasAll c E.reads with
      | false =>
       have HX:=Lib.hid (HR.out.trans (logDos_stop p s l _ _ n hlt HLOG.out (by rw [← HE.out];exact logDo1_has hh)))
       have HH:=Lib.hid hh
       clear hh HR
       go_wp2_with (first | (go_at_call 48;go_must (rw [← HX0.out];refine(tryOf_calls p s E P Q A B C Ad Au cp cq ca cb cc cd cu X S ((HPQ.out.2.1.belowAll HDB.out).belowAll HBX.out) (((HPQ.out.2.2.1.below HDB.out).t).belowAll HBX.out) HK.out.2.1).mono ?_;rintro e w5 ⟨hres,hb5⟩;rw [HDS.out] at hres;obtain⟨D,cD,rfl,hrD⟩:=hres;have hz5:=hb5.size;have v6:=(hb5.cell (p:=⟨wr.heap.size,0,none⟩) (by show wr.heap.size<X.heap.size;omega)).trans v6;have v9:=(hb5.cell (p:=⟨wr.heap.size,3,none⟩) (by show wr.heap.size<X.heap.size;omega)).trans v9;have v10:=(hb5.cell (p:=⟨wr.heap.size,4,none⟩) (by show wr.heap.size<X.heap.size;omega)).trans v10;have rz5:=(hb5.cell (p:=⟨gr,E.task.toNat,none⟩) (by show gr<X.heap.size;omega)).trans rz5;have rzf5:=(hb5.frozen (p:=⟨gr,E.task.toNat,none⟩) (by show gr<X.heap.size;omega)).trans rzf5;have HBX5:=Lib.hid (belowTwo HBX.out (by omega) (Nat.le_refl _) hb5);have HRD:=Lib.hid (hrD.belowAll hb5);clear hb5 hrD)) | (go_at_call 49;go_must (refine(hasAll_calls c E.reads Ac Ad cvc2 cd w5 _ _ (HA.out.1.belowAll HBX5.out) (HR5.out.1.belowAll HBX5.out)).mono ?_;rintro e w6 ⟨rfl,hb6⟩;rw [HH.out];have HBOK:=Lib.hid (belowTwo hbW hbW.size (Nat.le_refl _) (belowTwo HDB.out hzr (Nat.le_refl _) (belowTwo HBX5.out (by omega) (Nat.le_refl _) hb6)));clear hb6)))
       go_ret3
       exact⟨by rw [HX.out];exact⟨_,_,rfl⟩,HBOK.out⟩
      | true =>
       have HH:=Lib.hid hh
       clear hh
       cases hcd:changeDo c rs[E.task.toNat] ds with
       | none =>
        have HX:=Lib.hid (HR.out.trans (logDos_stop p s l _ _ n hlt HLOG.out (by rw [← HE.out];exact logDo1_fail HDS.out (by dsimp only;rw [HRZ.out];exact hcd))))
        have HCD:=Lib.hid hcd
        clear hcd HR
        go_wp2_with (first | (go_at_call 48;go_must (rw [← HX0.out];refine(tryOf_calls p s E P Q A B C Ad Au cp cq ca cb cc cd cu X S ((HPQ.out.2.1.belowAll HDB.out).belowAll HBX.out) (((HPQ.out.2.2.1.below HDB.out).t).belowAll HBX.out) HK.out.2.1).mono ?_;rintro e w5 ⟨hres,hb5⟩;rw [HDS.out] at hres;obtain⟨D,cD,rfl,hrD⟩:=hres;have hz5:=hb5.size;have v6:=(hb5.cell (p:=⟨wr.heap.size,0,none⟩) (by show wr.heap.size<X.heap.size;omega)).trans v6;have v9:=(hb5.cell (p:=⟨wr.heap.size,3,none⟩) (by show wr.heap.size<X.heap.size;omega)).trans v9;have v10:=(hb5.cell (p:=⟨wr.heap.size,4,none⟩) (by show wr.heap.size<X.heap.size;omega)).trans v10;have rz5:=(hb5.cell (p:=⟨gr,E.task.toNat,none⟩) (by show gr<X.heap.size;omega)).trans rz5;have rzf5:=(hb5.frozen (p:=⟨gr,E.task.toNat,none⟩) (by show gr<X.heap.size;omega)).trans rzf5;have HBX5:=Lib.hid (belowTwo HBX.out (by omega) (Nat.le_refl _) hb5);have HRD:=Lib.hid (hrD.belowAll hb5);clear hb5 hrD)) | (go_at_call 49;go_must (refine(hasAll_calls c E.reads Ac Ad cvc2 cd w5 _ _ (HA.out.1.belowAll HBX5.out) (HR5.out.1.belowAll HBX5.out)).mono ?_;rintro e w6 ⟨rfl,hb6⟩;rw [HH.out];have hz6:=hb6.size;have v6:=(hb6.cell (p:=⟨wr.heap.size,0,none⟩) (by show wr.heap.size<w5.heap.size;omega)).trans v6;have v9:=(hb6.cell (p:=⟨wr.heap.size,3,none⟩) (by show wr.heap.size<w5.heap.size;omega)).trans v9;have v10:=(hb6.cell (p:=⟨wr.heap.size,4,none⟩) (by show wr.heap.size<w5.heap.size;omega)).trans v10;have rz5:=(hb6.cell (p:=⟨gr,E.task.toNat,none⟩) (by show gr<w5.heap.size;omega)).trans rz5;have rzf5:=(hb6.frozen (p:=⟨gr,E.task.toNat,none⟩) (by show gr<w5.heap.size;omega)).trans rzf5;have HB6:=Lib.hid (belowTwo HBX5.out (by omega) (Nat.le_refl _) hb6);have HB56:=Lib.hid hb6;clear hb6)) | (go_at_call 50;go_must (refine(implChangeDo_calls c rs[E.task.toNat] ds Ac Az D cvc2 cz cD w6 _ _ _ (HA.out.1.belowAll HB6.out) (HA.out.2.belowAll HB6.out) (HRD.out.belowAll HB56.out)).mono ?_;rintro e w7 ⟨hres,hb7⟩;rw [HCD.out] at hres;obtain rfl:e=_:=hres;have HBOK:=Lib.hid (belowTwo hbW hbW.size (Nat.le_refl _) (belowTwo HDB.out hzr (Nat.le_refl _) (belowTwo HB6.out (by omega) (Nat.le_refl _) hb7)));clear hb7)))
        go_ret3
        exact⟨by rw [HX.out];exact⟨_,_,rfl⟩,HBOK.out⟩
       | some cr6 =>
        obtain⟨c6,r6⟩:=cr6
        have HCD:=Lib.hid hcd
        clear hcd
        cases hq:decide (putAll c E.puts=c6) with
        | false =>
         have HX:=Lib.hid (HR.out.trans (logDos_stop p s l _ _ n hlt HLOG.out (by rw [← HE.out];exact logDo1_no (x:=([],[])) HDS.out (by dsimp only;rw [HRZ.out];exact HCD.out) (by dsimp only;have h9:¬ (putAll c E.puts=c6):=(by simpa using hq);rw [decide_eq_false (fun e=>h9 e.symm),Bool.and_false]))))
         have HEQ:=Lib.hid hq
         clear hq HR
         go_wp2_with (first | (go_at_call 48;go_must (rw [← HX0.out];refine(tryOf_calls p s E P Q A B C Ad Au cp cq ca cb cc cd cu X S ((HPQ.out.2.1.belowAll HDB.out).belowAll HBX.out) (((HPQ.out.2.2.1.below HDB.out).t).belowAll HBX.out) HK.out.2.1).mono ?_;rintro e w5 ⟨hres,hb5⟩;rw [HDS.out] at hres;obtain⟨D,cD,rfl,hrD⟩:=hres;have hz5:=hb5.size;have v6:=(hb5.cell (p:=⟨wr.heap.size,0,none⟩) (by show wr.heap.size<X.heap.size;omega)).trans v6;have v9:=(hb5.cell (p:=⟨wr.heap.size,3,none⟩) (by show wr.heap.size<X.heap.size;omega)).trans v9;have v10:=(hb5.cell (p:=⟨wr.heap.size,4,none⟩) (by show wr.heap.size<X.heap.size;omega)).trans v10;have rz5:=(hb5.cell (p:=⟨gr,E.task.toNat,none⟩) (by show gr<X.heap.size;omega)).trans rz5;have rzf5:=(hb5.frozen (p:=⟨gr,E.task.toNat,none⟩) (by show gr<X.heap.size;omega)).trans rzf5;have HBX5:=Lib.hid (belowTwo HBX.out (by omega) (Nat.le_refl _) hb5);have HRD:=Lib.hid (hrD.belowAll hb5);clear hb5 hrD)) | (go_at_call 49;go_must (refine(hasAll_calls c E.reads Ac Ad cvc2 cd w5 _ _ (HA.out.1.belowAll HBX5.out) (HR5.out.1.belowAll HBX5.out)).mono ?_;rintro e w6 ⟨rfl,hb6⟩;rw [HH.out];have hz6:=hb6.size;have v6:=(hb6.cell (p:=⟨wr.heap.size,0,none⟩) (by show wr.heap.size<w5.heap.size;omega)).trans v6;have v9:=(hb6.cell (p:=⟨wr.heap.size,3,none⟩) (by show wr.heap.size<w5.heap.size;omega)).trans v9;have v10:=(hb6.cell (p:=⟨wr.heap.size,4,none⟩) (by show wr.heap.size<w5.heap.size;omega)).trans v10;have rz5:=(hb6.cell (p:=⟨gr,E.task.toNat,none⟩) (by show gr<w5.heap.size;omega)).trans rz5;have rzf5:=(hb6.frozen (p:=⟨gr,E.task.toNat,none⟩) (by show gr<w5.heap.size;omega)).trans rzf5;have HB6:=Lib.hid (belowTwo HBX5.out (by omega) (Nat.le_refl _) hb6);have HB56:=Lib.hid hb6;clear hb6)) | (go_at_call 50;go_must (refine(implChangeDo_calls c rs[E.task.toNat] ds Ac Az D cvc2 cz cD w6 _ _ _ (HA.out.1.belowAll HB6.out) (HA.out.2.belowAll HB6.out) (HRD.out.belowAll HB56.out)).mono ?_;rintro e w7 ⟨hres,hb7⟩;rw [HCD.out] at hres;obtain⟨x6,y6,rfl,hx6,hy6,hxy⟩:=hres;have hz7:=hb7.size;have v6:=(hb7.cell (p:=⟨wr.heap.size,0,none⟩) (by show wr.heap.size<w6.heap.size;omega)).trans v6;have v9:=(hb7.cell (p:=⟨wr.heap.size,3,none⟩) (by show wr.heap.size<w6.heap.size;omega)).trans v9;have v10:=(hb7.cell (p:=⟨wr.heap.size,4,none⟩) (by show wr.heap.size<w6.heap.size;omega)).trans v10;have rz5:=(hb7.cell (p:=⟨gr,E.task.toNat,none⟩) (by show gr<w6.heap.size;omega)).trans rz5;have rzf5:=(hb7.frozen (p:=⟨gr,E.task.toNat,none⟩) (by show gr<w6.heap.size;omega)).trans rzf5;obtain⟨A6,d6,rfl,_,hr6⟩:=hx6.row;obtain⟨A7,d7,rfl,_,hr7⟩:=hy6.row;have HB7:=Lib.hid (belowTwo HB6.out (by omega) (Nat.le_refl _) hb7);have HX6:=Lib.hid (And.intro hx6 (And.intro hy6 hr6));clear hb7 hx6 hy6 hxy hr6 hr7)) | (go_at_call 51;go_must (refine(doesPut_calls c c6 E.puts Ac A6 Au cvc2 d6 cu w7 _ _ _ (HA.out.1.belowAll HB7.out) HX6.out.2.2 (HR5.out.2.belowAll HB7.out) hput.out hcs).mono ?_;rintro e w8 ⟨rfl,hb8⟩;rw [HEQ.out];have hz8:=hb8.size;have v6:=(hb8.cell (p:=⟨wr.heap.size,0,none⟩) (by show wr.heap.size<w7.heap.size;omega)).trans v6;have v9:=(hb8.cell (p:=⟨wr.heap.size,3,none⟩) (by show wr.heap.size<w7.heap.size;omega)).trans v9;have v10:=(hb8.cell (p:=⟨wr.heap.size,4,none⟩) (by show wr.heap.size<w7.heap.size;omega)).trans v10;have rz5:=(hb8.cell (p:=⟨gr,E.task.toNat,none⟩) (by show gr<w7.heap.size;omega)).trans rz5;have rzf5:=(hb8.frozen (p:=⟨gr,E.task.toNat,none⟩) (by show gr<w7.heap.size;omega)).trans rzf5;have HB8:=Lib.hid (belowTwo HB7.out (by omega) (Nat.le_refl _) hb8);have HB78:=Lib.hid hb8;have HBOK:=Lib.hid (belowTwo hbW hbW.size (Nat.le_refl _) (belowTwo HDB.out hzr (Nat.le_refl _) HB8.out));clear hb8)))
         go_ret3
         exact⟨by rw [HX.out];exact⟨_,_,rfl⟩,HBOK.out⟩
        | true =>
         have h9:c6=putAll c E.puts:=by have:putAll c E.puts=c6:=(by simpa using hq);exact this.symm
         have HNX:=Lib.hid (logDos_next p s l _ _ _ n hlt HLOG.out (by rw [← HE.out];exact logDo1_yes (x:=([],[])) HDS.out (by dsimp only;rw [HRZ.out];exact HCD.out) HH.out h9))
         have HC6:Hid (c6.length=c.length):=Lib.hid (by rw [h9];exact putAll_len _ _)
         have HEQ:=Lib.hid hq
         clear hq h9
         go_wp2_with (first | (go_at_call 48;go_must (rw [← HX0.out];refine(tryOf_calls p s E P Q A B C Ad Au cp cq ca cb cc cd cu X S ((HPQ.out.2.1.belowAll HDB.out).belowAll HBX.out) (((HPQ.out.2.2.1.below HDB.out).t).belowAll HBX.out) HK.out.2.1).mono ?_;rintro e w5 ⟨hres,hb5⟩;rw [HDS.out] at hres;obtain⟨D,cD,rfl,hrD⟩:=hres;have hz5:=hb5.size;have v6:=(hb5.cell (p:=⟨wr.heap.size,0,none⟩) (by show wr.heap.size<X.heap.size;omega)).trans v6;have v9:=(hb5.cell (p:=⟨wr.heap.size,3,none⟩) (by show wr.heap.size<X.heap.size;omega)).trans v9;have v10:=(hb5.cell (p:=⟨wr.heap.size,4,none⟩) (by show wr.heap.size<X.heap.size;omega)).trans v10;have rz5:=(hb5.cell (p:=⟨gr,E.task.toNat,none⟩) (by show gr<X.heap.size;omega)).trans rz5;have rzf5:=(hb5.frozen (p:=⟨gr,E.task.toNat,none⟩) (by show gr<X.heap.size;omega)).trans rzf5;have HBX5:=Lib.hid (belowTwo HBX.out (by omega) (Nat.le_refl _) hb5);have HRD:=Lib.hid (hrD.belowAll hb5);clear hb5 hrD)) | (go_at_call 49;go_must (refine(hasAll_calls c E.reads Ac Ad cvc2 cd w5 _ _ (HA.out.1.belowAll HBX5.out) (HR5.out.1.belowAll HBX5.out)).mono ?_;rintro e w6 ⟨rfl,hb6⟩;rw [HH.out];have hz6:=hb6.size;have v6:=(hb6.cell (p:=⟨wr.heap.size,0,none⟩) (by show wr.heap.size<w5.heap.size;omega)).trans v6;have v9:=(hb6.cell (p:=⟨wr.heap.size,3,none⟩) (by show wr.heap.size<w5.heap.size;omega)).trans v9;have v10:=(hb6.cell (p:=⟨wr.heap.size,4,none⟩) (by show wr.heap.size<w5.heap.size;omega)).trans v10;have rz5:=(hb6.cell (p:=⟨gr,E.task.toNat,none⟩) (by show gr<w5.heap.size;omega)).trans rz5;have rzf5:=(hb6.frozen (p:=⟨gr,E.task.toNat,none⟩) (by show gr<w5.heap.size;omega)).trans rzf5;have HB6:=Lib.hid (belowTwo HBX5.out (by omega) (Nat.le_refl _) hb6);have HB56:=Lib.hid hb6;clear hb6)) | (go_at_call 50;go_must (refine(implChangeDo_calls c rs[E.task.toNat] ds Ac Az D cvc2 cz cD w6 _ _ _ (HA.out.1.belowAll HB6.out) (HA.out.2.belowAll HB6.out) (HRD.out.belowAll HB56.out)).mono ?_;rintro e w7 ⟨hres,hb7⟩;rw [HCD.out] at hres;obtain⟨x6,y6,rfl,hx6,hy6,hxy⟩:=hres;have hz7:=hb7.size;have v6:=(hb7.cell (p:=⟨wr.heap.size,0,none⟩) (by show wr.heap.size<w6.heap.size;omega)).trans v6;have v9:=(hb7.cell (p:=⟨wr.heap.size,3,none⟩) (by show wr.heap.size<w6.heap.size;omega)).trans v9;have v10:=(hb7.cell (p:=⟨wr.heap.size,4,none⟩) (by show wr.heap.size<w6.heap.size;omega)).trans v10;have rz5:=(hb7.cell (p:=⟨gr,E.task.toNat,none⟩) (by show gr<w6.heap.size;omega)).trans rz5;have rzf5:=(hb7.frozen (p:=⟨gr,E.task.toNat,none⟩) (by show gr<w6.heap.size;omega)).trans rzf5;obtain⟨A6,d6,rfl,_,hr6⟩:=hx6.row;obtain⟨A7,d7,rfl,_,hr7⟩:=hy6.row;have HB7:=Lib.hid (belowTwo HB6.out (by omega) (Nat.le_refl _) hb7);have HX6:=Lib.hid (And.intro hx6 (And.intro hy6 hr6));clear hb7 hx6 hy6 hxy hr6 hr7)) | (go_at_call 51;go_must (refine(doesPut_calls c c6 E.puts Ac A6 Au cvc2 d6 cu w7 _ _ _ (HA.out.1.belowAll HB7.out) HX6.out.2.2 (HR5.out.2.belowAll HB7.out) hput.out hcs).mono ?_;rintro e w8 ⟨rfl,hb8⟩;rw [HEQ.out];have hz8:=hb8.size;have v6:=(hb8.cell (p:=⟨wr.heap.size,0,none⟩) (by show wr.heap.size<w7.heap.size;omega)).trans v6;have v9:=(hb8.cell (p:=⟨wr.heap.size,3,none⟩) (by show wr.heap.size<w7.heap.size;omega)).trans v9;have v10:=(hb8.cell (p:=⟨wr.heap.size,4,none⟩) (by show wr.heap.size<w7.heap.size;omega)).trans v10;have rz5:=(hb8.cell (p:=⟨gr,E.task.toNat,none⟩) (by show gr<w7.heap.size;omega)).trans rz5;have rzf5:=(hb8.frozen (p:=⟨gr,E.task.toNat,none⟩) (by show gr<w7.heap.size;omega)).trans rzf5;have HB8:=Lib.hid (belowTwo HB7.out (by omega) (Nat.le_refl _) hb8);have HB78:=Lib.hid hb8;have HBOK:=Lib.hid (belowTwo hbW hbW.size (Nat.le_refl _) (belowTwo HDB.out hzr (Nat.le_refl _) HB8.out));clear hb8)))
         have hne:wr.heap.size≠gr:=by omega
         have hne2:gr≠wr.heap.size:=by omega
         go_region_held3 (fun w'=>w'.cell? ⟨wr.heap.size,0,none⟩=some (.int .i64 E.task)) (go_keep) (fail)
         have HBW9:=Lib.hid (belowTwo HDB.out hzr (Nat.le_refl _) HB8.out)
         have hx:=(HX6.out.1.belowAll HB78.out).lower (base':=W.heap.size) (by omega)
         have hy:=(HX6.out.2.1.belowAll HB78.out).lower (base':=W.heap.size) (by omega)
         have HDN:=Lib.hid (show Done9 W (.slice (some ⟨gr,0,none⟩) s.tasks.length s.tasks.length) c6 (rs.set E.task.toNat r6) (.slice A6 c6.length d6) (w8.setCell ⟨gr,E.task.toNat,none⟩ (.slice A7 r6.length d7)) from ⟨Regs.set (HDR.out.r.belowAll HB8.out) (by rw [HRS.out.1]) htl hy (fun e=>by have:=(HX6.out.2.1.blk _ e).1;omega),hx.far (p:=⟨gr,E.task.toNat,none⟩) (fun k e=>by have:=(HX6.out.1.blk k e).1;show k≠gr;omega) _,fun k e e2=>by have:=(HX6.out.1.blk k e).1;simp [Value.ownBlock] at e2;omega,HBW9.out.setCell (p:=⟨gr,E.task.toNat,none⟩) hgrW _⟩)
         clear hx hy
         go_wp2
         refine⟨⟨n+1,c6,rs.set E.task.toNat r6,by omega,by go_num,HNX.out,HDN.out.below ((Below.refl _ _).drew),by rw [HC6.out];exact HRS.out.2,by rw [List.length_set];exact HRS.out.1⟩,by simp [intOf];omega⟩
    ·obtain rfl:n=l.length:=by omega
     have hlt':¬ ((l.length:Int)<l.length):=by omega
     obtain⟨hDr,hlog,hq1,hrs,hq2⟩:=HD.out
     clear hq1 hq2
     rw [List.take_length] at hlog
     have HX:=Lib.hid (HR.out.trans hlog)
     have HBw:=Lib.hid (belowTwo hbW hbW.size (Nat.le_refl _) hDr.b)
     have HDX:=HD
     clear HR hlog hDr hrs HD
     go_wp2
     go_ret3
     obtain⟨hDr,_⟩:=HDX.out
     exact⟨by rw [HX.out];exact⟨.slice Ac c.length cvc2,.slice (some ⟨gr,0,none⟩) s.tasks.length s.tasks.length,rfl,hDr.c.lower (base':=w.heap.size) hbW.size,(Own.lower (base':=w.heap.size) hbW.size hDr.r).mono fun k (hk:W.heap.size≤k)=>Nat.le_trans hbW.size hk⟩,HBw.out⟩
end Go.Proofs.YtjacjafmimgfcaaGreat
