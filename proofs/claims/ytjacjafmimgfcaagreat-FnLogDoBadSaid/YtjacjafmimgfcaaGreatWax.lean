/- The reference's machine: a change's next deed. (Made by tools/gen_V11.py, tools/rgn.py.) -/
import Derived.Test.YtjacjafmimgfcaaGreatWaw
set_option maxHeartbeats 4000000
set_option maxRecDepth 100000
set_option linter.unusedVariables false
set_option linter.unusedSimpArgs false
namespace Go.Proofs.YtjacjafmimgfcaaGreat
open Go.RowKit
attribute [local go_sem ↓] Go.wp_at_zero Go.wp_at_succ
theorem deed_lit {w:World}{S:Nat→Prop}{A:Option Addr}{xs:List Deed}{j:Nat}(h:Row kDeed w S A xs)(hj:j<xs.length):∃ b o,A=some ⟨b,o,none⟩∧b<w.heap.size∧w.cell? ⟨b,o+j*3,none⟩=some (.int .i64 xs[j].kind)∧w.cell? ⟨b,o+j*3+1,none⟩=some (.int .i64 xs[j].a)∧w.cell? ⟨b,o+j*3+2,none⟩=some (.int .i64 xs[j].b):=by
 obtain⟨b,o,rfl,_,hl⟩:=h.lit (by decide) (by omega)
 obtain⟨ad,e,_,c0,c1,c2,_⟩:=at_deed h hj
 injection e with e
 subst e
 simp only [add_lit] at c0 c1 c2
 exact⟨b,o,rfl,hl,c0,c1,c2⟩
structure DeedCall (m:Mc) (s:Sys) (vt:Value) (w:World) (k:Nat) (deeds:List Deed) (A:Option Addr):Prop where
 h:Mach m s vt w
 hk:k<s.tasks.length
 hI:SInv m.p s
 hst:(s.t k).stage=1
 hp0:0≤(s.t k).pos
 hpl:(s.t k).pos≤deeds.length
 hdl:deeds.length≤1000
 hlg:s.log.length≤1000000000
 hD:∃ S,Row kDeed w S A deeds
 hok:∀ d ∈ deeds,deedOk d s.cells.length=true
theorem deed_end (m:Mc)(s:Sys)(vt:Value)(w:World)(k:Nat)(deeds:List Deed)(A:Option Addr)(cdd:Nat)(HC:DeedCall m s vt w k deeds A)(hend:(deeds.length:Int)≤(s.t k).pos) :
  Calls Tryz.prog 164 #[.pointer (some ⟨m.g,0,none⟩),.int .i64 k,.slice A deeds.length cdd] w (Steps m (deedS s k deeds) vt):=by
 obtain⟨h,hk,hI,hst,hp0,hpl,hdl,hlg,⟨S,hD⟩,hok⟩:=HC
 have HM:=Lib.hid h
 obtain⟨R,vc,vl,ts,es,H⟩:=h
 obtain⟨gt,cap,Ar,cr,Ao,co,Ad,cd,Au,cu,rfl,hx,hr,ho,hd,hu⟩:=H.at_ hk
 have hmax:=H.max
 have hS:=hI.small hk
 obtain⟨hne,hlt,hgl,g2,g3,g4,g5,hat,hfz,hfg⟩:=H.see hx
 obtain⟨gr,rfl,hlr0,-,-,-,-⟩:=H.reg hx (a:=0) (by have:=hS.regs;omega)
 have c0:=hat.c0;have c1:=hat.c1;have c2:=hat.c2;have c3:=hat.c3;have c4:=hat.c4;have c5:=hat.c5;have c6:=hat.c6;have c7:=hat.c7;have c8:=hat.c8;have c9:=hat.c9;have c10:=hat.c10;have c11:=hat.c11;have c12:=hat.c12
 have x1:(k:Int)<s.tasks.length:=by omega
 have x3:(0:Int)≤k:=by omega
 have hreg:(s.t k).regs.length=3:=hS.regs
 have hw1:IntKind.i64.wrap ((s.t k).pos+1)=(s.t k).pos+1:=IntWalk.i64_in _ (by omega)
 have HR3:=Lib.hid hreg
 clear hreg
 have hsp:=hS.puts
 have hsr:=hS.reads
 have HO:=Lib.hid (show (s.t k).old.length≤1000000 by have:=hS.old;omega)
 have HH:=Lib.hid (And.intro H hx)
 have HS:=Lib.hid hS
 have hT:=hI.t k hk
 have HT:=Lib.hid hT
 have HI:=Lib.hid hI
 have HOK:=Lib.hid hok
 clear H hx hat ho hr hS hI hT hst hok
 have a1:decide ((s.t k).pos ≥ (deeds.length:Int))=true:=by simpa using hend
 by_cases hz:(s.t k).puts.length=0
 ·have a2:(((s.t k).puts.length:Int) == 0)=true:=by simp [hz]
  have HL:=Lib.hid (show deedS s k deeds=endS s k (s.t k).since by unfold deedS;dsimp only;rw [if_pos hend,if_pos hz])
  clear hz hend
  go_enter Tryz.func164,Tryz.ntmps164
  go_wp2_with (go_at_call 170;go_must (refine(end_calls m s _ _ k (s.t k).since (HM.out.al _) hk (by omega) (by omega) hlg ⟨HS.out.pc0,by have:=HS.out.pc1;omega⟩).mono ?_;rintro e w3 ⟨rfl,H3⟩))
  go_end0
  exact⟨rfl,by rw [HL.out];exact H3⟩
 ·have a2:(((s.t k).puts.length:Int) == 0)=false:=by rw [beq_eq_false_iff_ne];omega
  have HL:=Lib.hid (show deedS s k deeds=s.setT k (stageT (s.t k) 2) by unfold deedS;dsimp only;rw [if_pos hend,if_neg hz])
  clear hz hend
  go_enter Tryz.func164,Tryz.ntmps164
  go_wp2_with (go_at_call 166;go_must (refine(stage_calls m s _ _ k 2 (HM.out.al _) hk).mono ?_;rintro e w9 ⟨rfl,H9⟩))
  go_end0
  exact⟨rfl,by rw [HL.out];exact H9⟩
theorem deed_load (m:Mc)(s:Sys)(vt:Value)(w:World)(k:Nat)(deeds:List Deed)(A:Option Addr)(cdd:Nat)(HC:DeedCall m s vt w k deeds A)(hlt':(s.t k).pos<deeds.length)(hkd:(deeds.getD (s.t k).pos.toNat noDeed).kind=1) :
  Calls Tryz.prog 164 #[.pointer (some ⟨m.g,0,none⟩),.int .i64 k,.slice A deeds.length cdd] w (Steps m (deedS s k deeds) vt):=by
 obtain⟨h,hk,hI,hst,hp0,hpl,hdl,hlg,⟨S,hD⟩,hok⟩:=HC
 have HM:=Lib.hid h
 obtain⟨R,vc,vl,ts,es,H⟩:=h
 obtain⟨gt,cap,Ar,cr,Ao,co,Ad,cd,Au,cu,rfl,hx,hr,ho,hd,hu⟩:=H.at_ hk
 have hmax:=H.max
 have hS:=hI.small hk
 obtain⟨hne,hlt,hgl,g2,g3,g4,g5,hat,hfz,hfg⟩:=H.see hx
 obtain⟨gr,rfl,hlr0,-,-,-,-⟩:=H.reg hx (a:=0) (by have:=hS.regs;omega)
 have c0:=hat.c0;have c1:=hat.c1;have c2:=hat.c2;have c3:=hat.c3;have c4:=hat.c4;have c5:=hat.c5;have c6:=hat.c6;have c7:=hat.c7;have c8:=hat.c8;have c9:=hat.c9;have c10:=hat.c10;have c11:=hat.c11;have c12:=hat.c12
 have x1:(k:Int)<s.tasks.length:=by omega
 have x3:(0:Int)≤k:=by omega
 have hreg:(s.t k).regs.length=3:=hS.regs
 have hw1:IntKind.i64.wrap ((s.t k).pos+1)=(s.t k).pos+1:=IntWalk.i64_in _ (by omega)
 have HR3:=Lib.hid hreg
 clear hreg
 have hsp:=hS.puts
 have hsr:=hS.reads
 have HO:=Lib.hid (show (s.t k).old.length≤1000000 by have:=hS.old;omega)
 have HH:=Lib.hid (And.intro H hx)
 have HS:=Lib.hid hS
 have hT:=hI.t k hk
 have HT:=Lib.hid hT
 have HI:=Lib.hid hI
 have HOK:=Lib.hid hok
 clear H hx hat ho hr hS hI hT hst hok
 rw [getD_at _ _ _ (show (s.t k).pos.toNat<deeds.length by omega)] at hkd
 have hql:(s.t k).pos.toNat<deeds.length:=by omega
 obtain⟨bd,od,rfl,hbd,D0,D1,D2⟩:=deed_lit hD hql
 have hdk:=HOK.out _ (List.getElem_mem hql)
 have hde:deedS s k deeds=oneDeed s k deeds[(s.t k).pos.toNat]:=by unfold deedS;dsimp only;rw [if_neg (by omega),getD_at _ _ _ hql]
 generalize deeds[(s.t k).pos.toNat]=d at *
 have a1:decide ((s.t k).pos ≥ (deeds.length:Int))=false:=by simp;omega
 have HDE:=Lib.hid hde
 clear hde
 have b1:(d.kind == 1)=true:=by simp [hkd]
 have b2:(d.kind == 2)=false:=by simp [hkd]
 have b5:(d.kind == 5)=false:=by simp [hkd]
 have hab:0≤d.a∧d.a≤2∧0≤d.b∧d.b<s.cells.length:=by
  unfold deedOk at hdk
  rw [if_pos hkd] at hdk
  simp [inR] at hdk
  omega
 have HL:=Lib.hid (show deedS s k deeds=loadS s k d by rw [HDE.out];unfold oneDeed;dsimp only;rw [if_pos hkd])
 have HAB:=Lib.hid hab
 clear hdk hkd hab
 have HM2:=Lib.hid (fun o1 o2=>HM.out.below (alB2 w o1 o2))
 go_enter Tryz.func164,Tryz.ntmps164
 go_wp2_with (go_at_call 171;go_must (refine(load_calls m s _ _ k d (HM2.out _ _) hk HI.out hp0 (by omega) HAB.out.1 HAB.out.2.1 HAB.out.2.2.1 HAB.out.2.2.2).mono ?_;rintro e w3 ⟨rfl,H3⟩))
 go_end0
 exact⟨rfl,by rw [HL.out];exact H3⟩
theorem deed_store (m:Mc)(s:Sys)(vt:Value)(w:World)(k:Nat)(deeds:List Deed)(A:Option Addr)(cdd:Nat)(HC:DeedCall m s vt w k deeds A)(hlt':(s.t k).pos<deeds.length)(hkd:(deeds.getD (s.t k).pos.toNat noDeed).kind=2) :
  Calls Tryz.prog 164 #[.pointer (some ⟨m.g,0,none⟩),.int .i64 k,.slice A deeds.length cdd] w (Steps m (deedS s k deeds) vt):=by
 obtain⟨h,hk,hI,hst,hp0,hpl,hdl,hlg,⟨S,hD⟩,hok⟩:=HC
 have HM:=Lib.hid h
 obtain⟨R,vc,vl,ts,es,H⟩:=h
 obtain⟨gt,cap,Ar,cr,Ao,co,Ad,cd,Au,cu,rfl,hx,hr,ho,hd,hu⟩:=H.at_ hk
 have hmax:=H.max
 have hS:=hI.small hk
 obtain⟨hne,hlt,hgl,g2,g3,g4,g5,hat,hfz,hfg⟩:=H.see hx
 obtain⟨gr,rfl,hlr0,-,-,-,-⟩:=H.reg hx (a:=0) (by have:=hS.regs;omega)
 have c0:=hat.c0;have c1:=hat.c1;have c2:=hat.c2;have c3:=hat.c3;have c4:=hat.c4;have c5:=hat.c5;have c6:=hat.c6;have c7:=hat.c7;have c8:=hat.c8;have c9:=hat.c9;have c10:=hat.c10;have c11:=hat.c11;have c12:=hat.c12
 have x1:(k:Int)<s.tasks.length:=by omega
 have x3:(0:Int)≤k:=by omega
 have hreg:(s.t k).regs.length=3:=hS.regs
 have hw1:IntKind.i64.wrap ((s.t k).pos+1)=(s.t k).pos+1:=IntWalk.i64_in _ (by omega)
 have HR3:=Lib.hid hreg
 clear hreg
 have hsp:=hS.puts
 have hsr:=hS.reads
 have HO:=Lib.hid (show (s.t k).old.length≤1000000 by have:=hS.old;omega)
 have HH:=Lib.hid (And.intro H hx)
 have HS:=Lib.hid hS
 have hT:=hI.t k hk
 have HT:=Lib.hid hT
 have HI:=Lib.hid hI
 have HOK:=Lib.hid hok
 clear H hx hat ho hr hS hI hT hst hok
 rw [getD_at _ _ _ (show (s.t k).pos.toNat<deeds.length by omega)] at hkd
 have hql:(s.t k).pos.toNat<deeds.length:=by omega
 obtain⟨bd,od,rfl,hbd,D0,D1,D2⟩:=deed_lit hD hql
 have hdk:=HOK.out _ (List.getElem_mem hql)
 have hde:deedS s k deeds=oneDeed s k deeds[(s.t k).pos.toNat]:=by unfold deedS;dsimp only;rw [if_neg (by omega),getD_at _ _ _ hql]
 generalize deeds[(s.t k).pos.toNat]=d at *
 have a1:decide ((s.t k).pos ≥ (deeds.length:Int))=false:=by simp;omega
 have HDE:=Lib.hid hde
 clear hde
 have b1:(d.kind == 1)=false:=by simp [hkd]
 have b2:(d.kind == 2)=true:=by simp [hkd]
 have b5:(d.kind == 5)=false:=by simp [hkd]
 have hab:0≤d.a∧d.a<s.cells.length∧0≤d.b∧d.b≤2:=by
  unfold deedOk at hdk
  rw [if_neg (by omega),if_pos hkd] at hdk
  simp [inR] at hdk
  omega
 have hbl:d.b.toNat<(s.t k).regs.length:=by rw [HR3.out];omega
 have hrd:rdI (s.t k).regs d.b=(s.t k).regs[d.b.toNat]:=by unfold rdI;exact getD_at _ _ _ hbl
 have HL:=Lib.hid (show deedS s k deeds=s.setT k (stepT { s.t k with puts:=addPut (s.t k).puts ⟨d.a,(s.t k).regs[d.b.toNat]⟩ }) by rw [HDE.out];unfold oneDeed;dsimp only;rw [if_neg (by omega),if_pos hkd,hrd])
 have y1:=hab.2.2.1
 have y2:d.b<(s.t k).regs.length:=by have:=HR3.out;have:=hab.2.2.2;omega
 clear hdk hkd hab hrd
 go_enter Tryz.func164,Tryz.ntmps164
 go_wp2
 obtain⟨W,HW⟩:∃ W,W=(w.alloc (.cells #[.int .i64 (s.t k).body,.int .i64 (s.t k).pc,.int .i64 (s.t k).up,.slice (some ⟨gr,0,none⟩) (s.t k).regs.length cr,.int .i64 (s.t k).way,.int .i64 (s.t k).stage,.int .i64 (s.t k).pos,.int .i64 (s.t k).since,.slice Ao (s.t k).old.length co,.slice Ad (s.t k).reads.length cd,.slice Au (s.t k).puts.length cu,.int .i64 (s.t k).whn,.int .i64 (s.t k).frm] 118)).alloc (.cells #[.int .i64 d.kind,.int .i64 d.a,.int .i64 d.b] 124):=⟨_,rfl⟩
 have hbW:Below w.heap.size w W:=by rw [HW];exact alB2 w _ _
 have hzW:W.heap.size=w.heap.size+2:=by rw [HW];simp
 have qB:W.heap[w.heap.size]?=some (.cells #[.int .i64 (s.t k).body,.int .i64 (s.t k).pc,.int .i64 (s.t k).up,.slice (some ⟨gr,0,none⟩) (s.t k).regs.length cr,.int .i64 (s.t k).way,.int .i64 (s.t k).stage,.int .i64 (s.t k).pos,.int .i64 (s.t k).since,.slice Ao (s.t k).old.length co,.slice Ad (s.t k).reads.length cd,.slice Au (s.t k).puts.length cu,.int .i64 (s.t k).whn,.int .i64 (s.t k).frm] 118 (0,0)):=by rw [HW];exact(Below.heap_alloc _ _ _ (by simp)).trans (heap_alloc_new w _)
 have qD:W.heap[w.heap.size+1]?=some (.cells #[.int .i64 d.kind,.int .i64 d.a,.int .i64 d.b] 124 (0,0)):=by rw [HW];have:=heap_alloc_new (w.alloc (.cells #[.int .i64 (s.t k).body,.int .i64 (s.t k).pc,.int .i64 (s.t k).up,.slice (some ⟨gr,0,none⟩) (s.t k).regs.length cr,.int .i64 (s.t k).way,.int .i64 (s.t k).stage,.int .i64 (s.t k).pos,.int .i64 (s.t k).since,.slice Ao (s.t k).old.length co,.slice Ad (s.t k).reads.length cd,.slice Au (s.t k).puts.length cu,.int .i64 (s.t k).whn,.int .i64 (s.t k).frm] 118)) (.cells #[.int .i64 d.kind,.int .i64 d.a,.int .i64 d.b] 124);simpa using this
 rw [← HW]
 clear HW
 have f0:W.cell? ⟨w.heap.size+1,0,none⟩=some (.int .i64 d.kind):=cell_of_row W _ 0 _ _ _ qD
 have f1:W.cell? ⟨w.heap.size+1,1,none⟩=some (.int .i64 d.a):=cell_of_row W _ 1 _ _ _ qD
 have f2:W.cell? ⟨w.heap.size+1,2,none⟩=some (.int .i64 d.b):=cell_of_row W _ 2 _ _ _ qD
 obtain⟨e0,e1,e2,e3,e4,e5,e6,e7,e8,e9,e10,e11,e12⟩:=block13 qB
 have H1:=HH.out.1.below hbW
 obtain⟨_,hltW,hglW,g2W,g3W,_,_,hatW,hfzW,_⟩:=H1.see HH.out.2
 have c3W:=hatW.c3
 have c10W:=hatW.c10
 have HZ:=Lib.hid hzW
 have hlW:w.heap.size+1<W.heap.size:=by omega
 have hG1:gt≠w.heap.size:=by omega
 have hG2:gt≠w.heap.size+1:=by omega
 clear qD qB e0 e1 e2 e4 e5 e8 e9 e11 e12 hatW g2 g3 g4 g5 hfz hfg c0 c1 c2 c3 c4 c5 c6 c7 c8 c9 c10 c11 c12 hzW
 obtain⟨gr',er,hlr,hrg,hrt,r0,rf⟩:=H1.reg HH.out.2 (a:=d.b.toNat) hbl
 injection er with er
 injection er with er
 subst er
 have huW:=hu.belowAll hbW
 have H1':=Lib.hid H1
 clear H1
 refine wp_region_noPanic ?_
 refine wp_region_head 18 (fun w'=>w'.cell? ⟨m.g,3,none⟩=some (.slice (some ⟨gt,0,none⟩) s.tasks.length cap)∧w'.cell? ⟨w.heap.size,10,none⟩=some (.slice Au (s.t k).puts.length cu)∧w'.cell? ⟨w.heap.size,3,none⟩=some (.slice (some ⟨gr,0,none⟩) (s.t k).regs.length cr)∧w'.cell? ⟨w.heap.size+1,1,none⟩=some (.int .i64 d.a)∧w'.cell? ⟨w.heap.size+1,2,none⟩=some (.int .i64 d.b)∧w'.cell? ⟨gr,d.b.toNat,none⟩=some (.int .i64 (s.t k).regs[d.b.toNat])) (by kernel_rfl) (by kernel_rfl) (by (try dsimp only)<;>(first | (go_keep;done) | (go_split_ands;exact⟨v1,v2,v3,v4,v5,v6⟩))) (fun hHeld=>?_)
 refine head_take (i:=0) (v:=_) (by kernel_rfl) rfl (by kernel_rfl) (by kernel_rfl) (by kernel_rfl) (fun _ _ _ h=>h) (Or.inl ⟨by rfl,by (intro w hSw;(try dsimp only at hSw);go_simp<;>with_reducible rfl)⟩) (by assumption) ?_
 (try simp only [q1,q2,q3,Act.put,q4,q5,q6])
 refine head_take (i:=1) (v:=_) (by kernel_rfl) rfl (by kernel_rfl) (by kernel_rfl) (by kernel_rfl) (fun _ _ _ h=>h) (Or.inl ⟨by rfl,by (intro w hSw;(try dsimp only at hSw);go_simp<;>with_reducible rfl)⟩) (by assumption) ?_
 (try simp only [q1,q2,q3,Act.put,q4,q5,q6])
 refine head_take (i:=2) (v:=_) (by kernel_rfl) rfl (by kernel_rfl) (by kernel_rfl) (by kernel_rfl) (fun _ _ _ h=>h) (Or.inl ⟨by rfl,by (intro w hSw;(try dsimp only at hSw);go_simp<;>with_reducible rfl)⟩) (by assumption) ?_
 (try simp only [q1,q2,q3,Act.put,q4,q5,q6])
 refine head_take (i:=3) (v:=_) (by kernel_rfl) rfl (by kernel_rfl) (by kernel_rfl) (by kernel_rfl) (fun _ _ _ h=>h) (Or.inl ⟨by rfl,by (intro w hSw;(try dsimp only at hSw);go_simp<;>with_reducible rfl)⟩) (by assumption) ?_
 (try simp only [q1,q2,q3,Act.put,q4,q5,q6])
 refine head_take (i:=4) (v:=_) (by kernel_rfl) rfl (by kernel_rfl) (by kernel_rfl) (by kernel_rfl) (fun _ _ _ h=>h) (Or.inl ⟨by rfl,by (intro w hSw;(try dsimp only at hSw);go_simp<;>with_reducible rfl)⟩) (by assumption) ?_
 (try simp only [q1,q2,q3,Act.put,q4,q5,q6])
 refine head_take (i:=5) (v:=_) (by kernel_rfl) rfl (by kernel_rfl) (by kernel_rfl) (by kernel_rfl) (fun _ _ _ h=>h) (Or.inl ⟨by rfl,by (intro w hSw;(try dsimp only at hSw);go_simp<;>with_reducible rfl)⟩) (by assumption) ?_
 (try simp only [q1,q2,q3,Act.put,q4,q5,q6])
 refine head_take (i:=6) (v:=_) (by kernel_rfl) rfl (by kernel_rfl) (by kernel_rfl) (by kernel_rfl) (fun _ _ _ h=>h) (Or.inl ⟨by rfl,by (intro w hSw;(try dsimp only at hSw);go_simp<;>with_reducible rfl)⟩) (by assumption) ?_
 (try simp only [q1,q2,q3,Act.put,q4,q5,q6])
 refine head_take (i:=7) (v:=_) (by kernel_rfl) rfl (by kernel_rfl) (by kernel_rfl) (by kernel_rfl) (fun _ _ _ h=>h) (Or.inl ⟨by rfl,by (intro w hSw;(try dsimp only at hSw);go_simp<;>with_reducible rfl)⟩) (by assumption) ?_
 (try simp only [q1,q2,q3,Act.put,q4,q5,q6])
 refine head_take (i:=8) (v:=_) (by kernel_rfl) rfl (by kernel_rfl) (by kernel_rfl) (by kernel_rfl) (fun _ _ _ h=>h) (Or.inl ⟨by rfl,by (intro w hSw;(try dsimp only at hSw);go_simp<;>with_reducible rfl)⟩) (by assumption) ?_
 (try simp only [q1,q2,q3,Act.put,q4,q5,q6])
 refine head_take (i:=9) (v:=_) (by kernel_rfl) rfl (by kernel_rfl) (by kernel_rfl) (by kernel_rfl) (fun _ _ _ h=>h) (Or.inl ⟨by rfl,by (intro w hSw;(try dsimp only at hSw);go_simp<;>with_reducible rfl)⟩) (by assumption) ?_
 (try simp only [q1,q2,q3,Act.put,q4,q5,q6])
 refine head_take (i:=10) (v:=_) (by kernel_rfl) rfl (by kernel_rfl) (by kernel_rfl) (by kernel_rfl) (fun _ _ _ h=>h) (Or.inl ⟨by rfl,by (intro w hSw;(try dsimp only at hSw);go_simp<;>with_reducible rfl)⟩) (by assumption) ?_
 (try simp only [q1,q2,q3,Act.put,q4,q5,q6])
 refine head_take (i:=11) (v:=_) (by kernel_rfl) rfl (by kernel_rfl) (by kernel_rfl) (by kernel_rfl) (fun _ _ _ h=>h) (Or.inl ⟨by rfl,by (intro w hSw;(try dsimp only at hSw);go_simp<;>with_reducible rfl)⟩) (by assumption) ?_
 (try simp only [q1,q2,q3,Act.put,q4,q5,q6])
 refine head_take (i:=12) (v:=_) (by kernel_rfl) rfl (by kernel_rfl) (by kernel_rfl) (by kernel_rfl) (fun _ _ _ h=>h) (Or.inl ⟨by rfl,by (intro w hSw;(try dsimp only at hSw);go_simp<;>with_reducible rfl)⟩) (by assumption) ?_
 (try simp only [q1,q2,q3,Act.put,q4,q5,q6])
 refine head_take (i:=13) (v:=_) (by kernel_rfl) rfl (by kernel_rfl) (by kernel_rfl) (by kernel_rfl) (fun _ _ _ h=>h) (Or.inl ⟨by rfl,by (intro w hSw;(try dsimp only at hSw);go_simp<;>with_reducible rfl)⟩) (by assumption) ?_
 (try simp only [q1,q2,q3,Act.put,q4,q5,q6])
 refine head_take (i:=14) (v:=_) (by kernel_rfl) rfl (by kernel_rfl) (by kernel_rfl) (by kernel_rfl) (fun _ _ _ h=>h) (Or.inl ⟨by rfl,by (intro w hSw;(try dsimp only at hSw);go_simp<;>with_reducible rfl)⟩) (by assumption) ?_
 (try simp only [q1,q2,q3,Act.put,q4,q5,q6])
 refine head_take (i:=15) (v:=_) (by kernel_rfl) rfl (by kernel_rfl) (by kernel_rfl) (by kernel_rfl) (fun _ _ _ h=>h) (Or.inl ⟨by rfl,by (intro w hSw;(try dsimp only at hSw);go_simp<;>with_reducible rfl)⟩) (by assumption) ?_
 (try simp only [q1,q2,q3,Act.put,q4,q5,q6])
 refine head_take (i:=16) (v:=_) (by kernel_rfl) rfl (by kernel_rfl) (by kernel_rfl) (by kernel_rfl) (fun _ _ _ h=>h) (Or.inl ⟨by rfl,by (intro w hSw;(try dsimp only at hSw);go_simp<;>with_reducible rfl)⟩) (by assumption) ?_
 (try simp only [q1,q2,q3,Act.put,q4,q5,q6])
 refine head_next (i:=17) rfl (by kernel_rfl) (by kernel_rfl) (fun Kq hKq=>?_)
 (try simp only [q1,q2,q3])
 refine step_hold (a:=⟨_,_⟩) ?_
 go_simp
 (refine(l11Add_calls (s.t k).puts ⟨d.a,(s.t k).regs[d.b.toNat]⟩ Au cu _ _ (huW.belowAll (Below.refl _ _).drew) (by omega) (putsOk_sorted HT.out.puts)).mono ?_;rintro e w4 ⟨v4',rfl,ho4,hc4⟩;obtain⟨A4,c4,rfl,_⟩:=Own.slice ho4;have v1:=(hc4.cell (p:=⟨m.g,3,none⟩) hglW).trans g3W;have v2:=(hc4.cell (p:=⟨w.heap.size,10,none⟩) (by show w.heap.size<W.heap.size;omega)).trans e10;have v3:=(hc4.cell (p:=⟨w.heap.size,3,none⟩) (by show w.heap.size<W.heap.size;omega)).trans e3;have v4:=(hc4.cell (p:=⟨w.heap.size+1,1,none⟩) hlW).trans f1;have v5:=(hc4.cell (p:=⟨w.heap.size+1,2,none⟩) hlW).trans f2;have v6:=(hc4.cell (p:=⟨gr,d.b.toNat,none⟩) hlr).trans r0;have v7:=(hc4.cell (p:=⟨gt,k*13+10,none⟩) hltW).trans c10W;have v8:=(hc4.frozen (p:=⟨gt,k*13+10,none⟩) hltW).trans (hfzW _))
 refine hKq.out _ _ (by (try dsimp only)<;>(first | (go_keep;done) | (go_split_ands;exact⟨v1,v2,v3,v4,v5,v6⟩))) (fun hHeld=>?_)
 clear hKq Kq
 (try simp only [q1,q2,q3,Act.put,q4,q5,q6])
 refine head_done (by kernel_rfl) ?_
 simp only [List.toList_toArray,List.drop_succ_cons,List.drop_zero]
 go_wp2_with fail
 refine NoPanic.normal ?_
 have H1:=H1'.out
 obtain⟨R5,H5⟩:=H1.rowU HH.out.2 (Keep.of_belowAll _ (below_then ((Below.refl _ W).drew) (Nat.le_refl _) hc4)) (OwnF.lower H1.bl ho4) (fun k' e=>.inr (H1.fresh (OwnF.blk ho4 k' e).1))
 obtain⟨W5,HW5⟩:∃ W5,W5=w4.setCell ⟨gt,k*13+10,none⟩ (.slice A4 (addPut (s.t k).puts ⟨d.a,(s.t k).regs[d.b.toNat]⟩).length c4):=⟨_,rfl⟩
 have r6:W5.cell? ⟨w.heap.size,6,none⟩=some (.int .i64 (s.t k).pos):=by rw [HW5];exact cell_far ((hc4.cell (p:=⟨w.heap.size,6,none⟩) (by show w.heap.size<W.heap.size;omega)).trans e6) hG1
 rw [← HW5] at H5 ⊢
 have hx5:=ts_set (y:=⟨{ s.t k with puts:=addPut (s.t k).puts ⟨d.a,(s.t k).regs[d.b.toNat]⟩ },.slice (some ⟨gr,0,none⟩) (s.t k).regs.length cr,.slice Ao (s.t k).old.length co,.slice Ad (s.t k).reads.length cd,.slice A4 (addPut (s.t k).puts ⟨d.a,(s.t k).regs[d.b.toNat]⟩).length c4⟩) HH.out.2
 clear HW5 hHeld H1 H1' v1 v2 v3 v4 v5 v6 v7 v8 ho4 huW hfzW hltW hglW c10W c3W e3 e6 e7 e10 f0 f1 f2 g2W g3W r0 rf
 go_wp2_with fail
 obtain⟨_,hltX,hglX,_,g3X,_,_,hatX,hfzX,_⟩:=H5.see hx5
 have c6X:=hatX.c6
 have HZZ:=(H5.int hx5 6 (by omega) ((s.t k).pos+1) (stepT ({ s.t k with puts:=addPut (s.t k).puts ⟨d.a,(s.t k).regs[d.b.toNat]⟩ })) rfl rfl rfl rfl rfl).below ((Below.refl _ _).drew)
 try simp only [setT_setT] at HZZ
 have HMZ:=Lib.hid HZZ.mach
 clear H5 HZZ hatX
 go_still_tail 11,(by kernel_rfl)
 go_wp2
 go_end0
 exact⟨rfl,by rw [HL.out];exact HMZ.out⟩
theorem deed_need (m:Mc)(s:Sys)(vt:Value)(w:World)(k:Nat)(deeds:List Deed)(A:Option Addr)(cdd:Nat)(HC:DeedCall m s vt w k deeds A)(hlt':(s.t k).pos<deeds.length)(hkd:(deeds.getD (s.t k).pos.toNat noDeed).kind=5) :
  Calls Tryz.prog 164 #[.pointer (some ⟨m.g,0,none⟩),.int .i64 k,.slice A deeds.length cdd] w (Steps m (deedS s k deeds) vt):=by
 obtain⟨h,hk,hI,hst,hp0,hpl,hdl,hlg,⟨S,hD⟩,hok⟩:=HC
 have HM:=Lib.hid h
 obtain⟨R,vc,vl,ts,es,H⟩:=h
 obtain⟨gt,cap,Ar,cr,Ao,co,Ad,cd,Au,cu,rfl,hx,hr,ho,hd,hu⟩:=H.at_ hk
 have hmax:=H.max
 have hS:=hI.small hk
 obtain⟨hne,hlt,hgl,g2,g3,g4,g5,hat,hfz,hfg⟩:=H.see hx
 obtain⟨gr,rfl,hlr0,-,-,-,-⟩:=H.reg hx (a:=0) (by have:=hS.regs;omega)
 have c0:=hat.c0;have c1:=hat.c1;have c2:=hat.c2;have c3:=hat.c3;have c4:=hat.c4;have c5:=hat.c5;have c6:=hat.c6;have c7:=hat.c7;have c8:=hat.c8;have c9:=hat.c9;have c10:=hat.c10;have c11:=hat.c11;have c12:=hat.c12
 have x1:(k:Int)<s.tasks.length:=by omega
 have x3:(0:Int)≤k:=by omega
 have hreg:(s.t k).regs.length=3:=hS.regs
 have hw1:IntKind.i64.wrap ((s.t k).pos+1)=(s.t k).pos+1:=IntWalk.i64_in _ (by omega)
 have HR3:=Lib.hid hreg
 clear hreg
 have hsp:=hS.puts
 have hsr:=hS.reads
 have HO:=Lib.hid (show (s.t k).old.length≤1000000 by have:=hS.old;omega)
 have HH:=Lib.hid (And.intro H hx)
 have HS:=Lib.hid hS
 have hT:=hI.t k hk
 have HT:=Lib.hid hT
 have HI:=Lib.hid hI
 have HOK:=Lib.hid hok
 clear H hx hat ho hr hS hI hT hst hok
 rw [getD_at _ _ _ (show (s.t k).pos.toNat<deeds.length by omega)] at hkd
 have hql:(s.t k).pos.toNat<deeds.length:=by omega
 obtain⟨bd,od,rfl,hbd,D0,D1,D2⟩:=deed_lit hD hql
 have hdk:=HOK.out _ (List.getElem_mem hql)
 have hde:deedS s k deeds=oneDeed s k deeds[(s.t k).pos.toNat]:=by unfold deedS;dsimp only;rw [if_neg (by omega),getD_at _ _ _ hql]
 generalize deeds[(s.t k).pos.toNat]=d at *
 have a1:decide ((s.t k).pos ≥ (deeds.length:Int))=false:=by simp;omega
 have HDE:=Lib.hid hde
 clear hde
 have b1:(d.kind == 1)=false:=by simp [hkd]
 have b2:(d.kind == 2)=false:=by simp [hkd]
 have b5:(d.kind == 5)=true:=by simp [hkd]
 have hab:0≤d.a∧d.a≤2:=by
  unfold deedOk at hdk
  rw [if_neg (by omega),if_neg (by omega),if_neg (by omega),if_neg (by omega),if_pos hkd] at hdk
  simp [inR] at hdk
  omega
 have hbl:d.a.toNat<(s.t k).regs.length:=by rw [HR3.out];omega
 have hrd:rdI (s.t k).regs d.a=(s.t k).regs[d.a.toNat]:=by unfold rdI;exact getD_at _ _ _ hbl
 have y1:=hab.1
 have y2:d.a<(s.t k).regs.length:=by have:=HR3.out;have:=hab.2;omega
 obtain⟨gr',er,hlr,hrg,hrt,r0,rf⟩:=HH.out.1.reg HH.out.2 (a:=d.a.toNat) hbl
 injection er with er
 injection er with er
 subst er
 have hlb:deedS s k deeds=if (s.t k).regs[d.a.toNat]=0 then (againS s k).setT k { (againS s k).t k with whn:=(s.t k).since+1 } else s.setT k (stepT (s.t k)):=by rw [HDE.out];unfold oneDeed;dsimp only;rw [if_neg (by omega),if_neg (by omega),if_neg (by omega),if_neg (by omega),hrd]
 have HLn:=Lib.hid hlb
 have hsin:=HT.out.since
 have hck:=HI.out.clock
 have hw2:IntKind.i64.wrap ((s.t k).since+1)=(s.t k).since+1:=IntWalk.i64_in _ (by omega)
 clear hdk hkd hab hrd hlb
 by_cases hz:(s.t k).regs[d.a.toNat]=0
 ·have a3:((s.t k).regs[d.a.toNat] == 0)=true:=by simp [hz]
  have HZ:=Lib.hid hz
  clear hz
  go_enter Tryz.func164,Tryz.ntmps164
  go_wp2_with (go_at_call 169;go_must (refine(again_calls m s _ _ k ((HM.out.below (alB2 w _ _))) hk HO.out).mono ?_;rintro e w3 ⟨rfl,H3⟩;obtain⟨R3,vc3,vl3,ts3,es3,H3⟩:=H3;obtain⟨gt3,cap3,Ar3,cr3,Ao3,co3,Ad3,cd3,Au3,cu3,evt,hx3,_,_,_,_⟩:=H3.at_ (j:=k) (by show k<(s.tasks.set k _).length;simpa using hk);injection evt with ev1 ev2 ev3;injection ev1 with ev1;injection ev1 with ev1;subst ev1;obtain⟨_,hlt3,hgl3,_,p3,_,_,hat3,hfz3,_⟩:=H3.see hx3;have t11:=hat3.c11))
  go_end0
  refine⟨rfl,?_⟩
  rw [HLn.out,if_pos HZ.out]
  exact(H3.int hx3 11 (by omega) ((s.t k).since+1) { (againS s k).t k with whn:=(s.t k).since+1 } rfl rfl rfl rfl rfl).mach
 ·have a3:((s.t k).regs[d.a.toNat] == 0)=false:=by simp [hz]
  have HZ':=Lib.hid hz
  have HL:=Lib.hid (show deedS s k deeds=s.setT k (stepT (s.t k)) by rw [HLn.out,if_neg hz])
  clear hz
  go_enter Tryz.func164,Tryz.ntmps164
  go_wp2
  obtain⟨W,HW⟩:∃ W,W=(w.alloc (.cells #[.int .i64 (s.t k).body,.int .i64 (s.t k).pc,.int .i64 (s.t k).up,.slice (some ⟨gr,0,none⟩) (s.t k).regs.length cr,.int .i64 (s.t k).way,.int .i64 (s.t k).stage,.int .i64 (s.t k).pos,.int .i64 (s.t k).since,.slice Ao (s.t k).old.length co,.slice Ad (s.t k).reads.length cd,.slice Au (s.t k).puts.length cu,.int .i64 (s.t k).whn,.int .i64 (s.t k).frm] 118)).alloc (.cells #[.int .i64 d.kind,.int .i64 d.a,.int .i64 d.b] 124):=⟨_,rfl⟩
  have hbW:Below w.heap.size w W:=by rw [HW];exact alB2 w _ _
  have hzW:W.heap.size=w.heap.size+2:=by rw [HW];simp
  have qB:W.heap[w.heap.size]?=some (.cells #[.int .i64 (s.t k).body,.int .i64 (s.t k).pc,.int .i64 (s.t k).up,.slice (some ⟨gr,0,none⟩) (s.t k).regs.length cr,.int .i64 (s.t k).way,.int .i64 (s.t k).stage,.int .i64 (s.t k).pos,.int .i64 (s.t k).since,.slice Ao (s.t k).old.length co,.slice Ad (s.t k).reads.length cd,.slice Au (s.t k).puts.length cu,.int .i64 (s.t k).whn,.int .i64 (s.t k).frm] 118 (0,0)):=by rw [HW];exact(Below.heap_alloc _ _ _ (by simp)).trans (heap_alloc_new w _)
  have qD:W.heap[w.heap.size+1]?=some (.cells #[.int .i64 d.kind,.int .i64 d.a,.int .i64 d.b] 124 (0,0)):=by rw [HW];have:=heap_alloc_new (w.alloc (.cells #[.int .i64 (s.t k).body,.int .i64 (s.t k).pc,.int .i64 (s.t k).up,.slice (some ⟨gr,0,none⟩) (s.t k).regs.length cr,.int .i64 (s.t k).way,.int .i64 (s.t k).stage,.int .i64 (s.t k).pos,.int .i64 (s.t k).since,.slice Ao (s.t k).old.length co,.slice Ad (s.t k).reads.length cd,.slice Au (s.t k).puts.length cu,.int .i64 (s.t k).whn,.int .i64 (s.t k).frm] 118)) (.cells #[.int .i64 d.kind,.int .i64 d.a,.int .i64 d.b] 124);simpa using this
  rw [← HW]
  clear HW
  have f0:W.cell? ⟨w.heap.size+1,0,none⟩=some (.int .i64 d.kind):=cell_of_row W _ 0 _ _ _ qD
  have f1:W.cell? ⟨w.heap.size+1,1,none⟩=some (.int .i64 d.a):=cell_of_row W _ 1 _ _ _ qD
  have f2:W.cell? ⟨w.heap.size+1,2,none⟩=some (.int .i64 d.b):=cell_of_row W _ 2 _ _ _ qD
  obtain⟨e0,e1,e2,e3,e4,e5,e6,e7,e8,e9,e10,e11,e12⟩:=block13 qB
  have H1:=HH.out.1.below hbW
  obtain⟨_,hltW,hglW,g2W,g3W,_,_,hatW,hfzW,_⟩:=H1.see HH.out.2
  have c3W:=hatW.c3
  have c10W:=hatW.c10
  have HZ:=Lib.hid hzW
  have hlW:w.heap.size+1<W.heap.size:=by omega
  have hG1:gt≠w.heap.size:=by omega
  have hG2:gt≠w.heap.size+1:=by omega
  clear qD qB e0 e1 e2 e4 e5 e8 e9 e11 e12 hatW g2 g3 g4 g5 hfz hfg c0 c1 c2 c3 c4 c5 c6 c7 c8 c9 c10 c11 c12 hzW
  clear e3 e7 e10 f0 f1 f2 g2W g3W c3W c10W hfzW hltW hglW
  obtain⟨_,hltX,hglX,_,g3X,_,_,hatX,hfzX,_⟩:=H1.see HH.out.2
  have c6X:=hatX.c6
  have HZZ:=(H1.int HH.out.2 6 (by omega) ((s.t k).pos+1) (stepT (s.t k)) rfl rfl rfl rfl rfl).below ((Below.refl _ _).drew)
  try simp only [setT_setT] at HZZ
  have HMZ:=Lib.hid HZZ.mach
  clear H1 HZZ hatX
  go_still_tail 11,(by kernel_rfl)
  go_wp2
  go_end0
  exact⟨rfl,by rw [HL.out];exact HMZ.out⟩
theorem deed_reg (m:Mc)(s:Sys)(vt:Value)(w:World)(k:Nat)(deeds:List Deed)(A:Option Addr)(cdd:Nat)(HC:DeedCall m s vt w k deeds A)(hlt':(s.t k).pos<deeds.length)(hkd:(deeds.getD (s.t k).pos.toNat noDeed).kind=3∨(deeds.getD (s.t k).pos.toNat noDeed).kind=4) :
  Calls Tryz.prog 164 #[.pointer (some ⟨m.g,0,none⟩),.int .i64 k,.slice A deeds.length cdd] w (Steps m (deedS s k deeds) vt):=by
 obtain⟨h,hk,hI,hst,hp0,hpl,hdl,hlg,⟨S,hD⟩,hok⟩:=HC
 have HM:=Lib.hid h
 obtain⟨R,vc,vl,ts,es,H⟩:=h
 obtain⟨gt,cap,Ar,cr,Ao,co,Ad,cd,Au,cu,rfl,hx,hr,ho,hd,hu⟩:=H.at_ hk
 have hmax:=H.max
 have hS:=hI.small hk
 obtain⟨hne,hlt,hgl,g2,g3,g4,g5,hat,hfz,hfg⟩:=H.see hx
 obtain⟨gr,rfl,hlr0,-,-,-,-⟩:=H.reg hx (a:=0) (by have:=hS.regs;omega)
 have c0:=hat.c0;have c1:=hat.c1;have c2:=hat.c2;have c3:=hat.c3;have c4:=hat.c4;have c5:=hat.c5;have c6:=hat.c6;have c7:=hat.c7;have c8:=hat.c8;have c9:=hat.c9;have c10:=hat.c10;have c11:=hat.c11;have c12:=hat.c12
 have x1:(k:Int)<s.tasks.length:=by omega
 have x3:(0:Int)≤k:=by omega
 have hreg:(s.t k).regs.length=3:=hS.regs
 have hw1:IntKind.i64.wrap ((s.t k).pos+1)=(s.t k).pos+1:=IntWalk.i64_in _ (by omega)
 have HR3:=Lib.hid hreg
 clear hreg
 have hsp:=hS.puts
 have hsr:=hS.reads
 have HO:=Lib.hid (show (s.t k).old.length≤1000000 by have:=hS.old;omega)
 have HH:=Lib.hid (And.intro H hx)
 have HS:=Lib.hid hS
 have hT:=hI.t k hk
 have HT:=Lib.hid hT
 have HI:=Lib.hid hI
 have HOK:=Lib.hid hok
 clear H hx hat ho hr hS hI hT hst hok
 rw [getD_at _ _ _ (show (s.t k).pos.toNat<deeds.length by omega)] at hkd
 have hql:(s.t k).pos.toNat<deeds.length:=by omega
 obtain⟨bd,od,rfl,hbd,D0,D1,D2⟩:=deed_lit hD hql
 have hdk:=HOK.out _ (List.getElem_mem hql)
 have hde:deedS s k deeds=oneDeed s k deeds[(s.t k).pos.toNat]:=by unfold deedS;dsimp only;rw [if_neg (by omega),getD_at _ _ _ hql]
 generalize deeds[(s.t k).pos.toNat]=d at *
 have a1:decide ((s.t k).pos ≥ (deeds.length:Int))=false:=by simp;omega
 have HDE:=Lib.hid hde
 clear hde
 have b1:(d.kind == 1)=false:=by rcases hkd with h | h<;>simp [h]
 have b2:(d.kind == 2)=false:=by rcases hkd with h | h<;>simp [h]
 have b5:(d.kind == 5)=false:=by rcases hkd with h | h<;>simp [h]
 have hab:d.kind=3∧inR d.a 0 2=true∧inR d.b 0 99=true∨d.kind=4∧inR d.a 0 2=true∧inR d.b 0 2=true:=by
  unfold deedOk at hdk
  rw [if_neg (by omega),if_neg (by omega)] at hdk
  rcases hkd with h | h
  ·rw [if_pos h] at hdk
   simp only [Bool.and_eq_true] at hdk
   exact .inl ⟨h,hdk.1,hdk.2⟩
  ·rw [if_neg (by omega),if_pos h] at hdk
   simp only [Bool.and_eq_true] at hdk
   exact .inr ⟨h,hdk.1,hdk.2⟩
 have hlb:∀ regs',doDeed ([],(s.t k).regs) ⟨d.kind,d.a,d.b⟩=some ([],regs')→deedS s k deeds=s.setT k (stepT { s.t k with regs:=regs' }):=by
  intro regs' hdo
  rw [HDE.out]
  unfold oneDeed
  dsimp only
  unfold doDeed at hdo
  dsimp only at hdo
  rw [if_neg (by omega),if_neg (by omega)] at hdo ⊢
  rcases hkd with h | h
  ·rw [if_pos h] at hdo ⊢
   injection hdo with hdo
   injection hdo with _ hdo
   rw [← hdo]
  ·rw [if_neg (by omega),if_pos h] at hdo ⊢
   injection hdo with hdo
   injection hdo with _ hdo
   rw [← hdo]
 have HL0:=Lib.hid hlb
 have HAB:=Lib.hid hab
 clear hdk hkd hab hlb
 go_enter Tryz.func164,Tryz.ntmps164
 go_wp2
 obtain⟨W,HW⟩:∃ W,W=(w.alloc (.cells #[.int .i64 (s.t k).body,.int .i64 (s.t k).pc,.int .i64 (s.t k).up,.slice (some ⟨gr,0,none⟩) (s.t k).regs.length cr,.int .i64 (s.t k).way,.int .i64 (s.t k).stage,.int .i64 (s.t k).pos,.int .i64 (s.t k).since,.slice Ao (s.t k).old.length co,.slice Ad (s.t k).reads.length cd,.slice Au (s.t k).puts.length cu,.int .i64 (s.t k).whn,.int .i64 (s.t k).frm] 118)).alloc (.cells #[.int .i64 d.kind,.int .i64 d.a,.int .i64 d.b] 124):=⟨_,rfl⟩
 have hbW:Below w.heap.size w W:=by rw [HW];exact alB2 w _ _
 have hzW:W.heap.size=w.heap.size+2:=by rw [HW];simp
 have qB:W.heap[w.heap.size]?=some (.cells #[.int .i64 (s.t k).body,.int .i64 (s.t k).pc,.int .i64 (s.t k).up,.slice (some ⟨gr,0,none⟩) (s.t k).regs.length cr,.int .i64 (s.t k).way,.int .i64 (s.t k).stage,.int .i64 (s.t k).pos,.int .i64 (s.t k).since,.slice Ao (s.t k).old.length co,.slice Ad (s.t k).reads.length cd,.slice Au (s.t k).puts.length cu,.int .i64 (s.t k).whn,.int .i64 (s.t k).frm] 118 (0,0)):=by rw [HW];exact(Below.heap_alloc _ _ _ (by simp)).trans (heap_alloc_new w _)
 have qD:W.heap[w.heap.size+1]?=some (.cells #[.int .i64 d.kind,.int .i64 d.a,.int .i64 d.b] 124 (0,0)):=by rw [HW];have:=heap_alloc_new (w.alloc (.cells #[.int .i64 (s.t k).body,.int .i64 (s.t k).pc,.int .i64 (s.t k).up,.slice (some ⟨gr,0,none⟩) (s.t k).regs.length cr,.int .i64 (s.t k).way,.int .i64 (s.t k).stage,.int .i64 (s.t k).pos,.int .i64 (s.t k).since,.slice Ao (s.t k).old.length co,.slice Ad (s.t k).reads.length cd,.slice Au (s.t k).puts.length cu,.int .i64 (s.t k).whn,.int .i64 (s.t k).frm] 118)) (.cells #[.int .i64 d.kind,.int .i64 d.a,.int .i64 d.b] 124);simpa using this
 rw [← HW]
 clear HW
 have f0:W.cell? ⟨w.heap.size+1,0,none⟩=some (.int .i64 d.kind):=cell_of_row W _ 0 _ _ _ qD
 have f1:W.cell? ⟨w.heap.size+1,1,none⟩=some (.int .i64 d.a):=cell_of_row W _ 1 _ _ _ qD
 have f2:W.cell? ⟨w.heap.size+1,2,none⟩=some (.int .i64 d.b):=cell_of_row W _ 2 _ _ _ qD
 obtain⟨e0,e1,e2,e3,e4,e5,e6,e7,e8,e9,e10,e11,e12⟩:=block13 qB
 have H1:=HH.out.1.below hbW
 obtain⟨_,hltW,hglW,g2W,g3W,_,_,hatW,hfzW,_⟩:=H1.see HH.out.2
 have c3W:=hatW.c3
 have c10W:=hatW.c10
 have HZ:=Lib.hid hzW
 have hlW:w.heap.size+1<W.heap.size:=by omega
 have hG1:gt≠w.heap.size:=by omega
 have hG2:gt≠w.heap.size+1:=by omega
 clear qD qB e0 e1 e2 e4 e5 e8 e9 e11 e12 hatW g2 g3 g4 g5 hfz hfg c0 c1 c2 c3 c4 c5 c6 c7 c8 c9 c10 c11 c12 hzW
 have hrI:OwnI 3 W m.base (.slice (some ⟨gr,0,none⟩) (s.t k).regs.length cr) (s.t k).regs:=(H1.sys.tt k _ HH.out.2).r
 have hRr:=(H1.sys.tt k _ HH.out.2).Rr gr rfl
 have hgr1:gr≠w.heap.size:=by omega
 have H1':=Lib.hid H1
 clear H1
 go_still_tail 10,(by kernel_rfl)
 go_wp2_with (go_at_call 76;go_must (refine(l2Reg_calls d.kind d.a d.b (s.t k).regs _ m.base _ HR3.out (Own.step hrI (w':=W.drew) (fun _ _ _=>rfl)) HT.out.regs.1 HAB.out).mono ?_;rintro e w4 ⟨rfl,regs',hdo,ho4,hg4⟩))
 have hk4:Keep (fun k'=>(Value.slice (some ⟨gr,0,none⟩) (s.t k).regs.length cr).ownBlock=some k') W w4:=(Keep.of_belowAll _ (Below.refl _ W).drew).trans (Keep.of_grown hg4 fun k e=>e)
 have H5:=H1'.out.regs HH.out.2 hk4 ho4
 have HL:=Lib.hid (HL0.out regs' hdo)
 have hx5:=ts_set (y:=⟨{ s.t k with regs:=regs' },.slice (some ⟨gr,0,none⟩) (s.t k).regs.length cr,.slice Ao (s.t k).old.length co,.slice Ad (s.t k).reads.length cd,.slice Au (s.t k).puts.length cu⟩) HH.out.2
 have r6:=(hk4.cell (p:=⟨w.heap.size,6,none⟩) (by show w.heap.size<W.heap.size;omega) (fun e=>by injection e with e;exact hgr1 e)).trans e6
 clear H1' ho4 hk4 hg4 hrI e3 e6 e7 e10 f0 f1 f2 g2W g3W c3W c10W hfzW hltW hglW hdo
 go_wp2_with fail
 obtain⟨_,hltX,hglX,_,g3X,_,_,hatX,hfzX,_⟩:=H5.see hx5
 have c6X:=hatX.c6
 have HZZ:=(H5.int hx5 6 (by omega) ((s.t k).pos+1) (stepT ({ s.t k with regs:=regs' })) rfl rfl rfl rfl rfl).below ((Below.refl _ _).drew)
 try simp only [setT_setT] at HZZ
 have HMZ:=Lib.hid HZZ.mach
 clear H5 HZZ hatX
 go_still_tail 11,(by kernel_rfl)
 go_wp2
 go_end0
 exact⟨rfl,by rw [HL.out];exact HMZ.out⟩
theorem deed_calls (m:Mc)(s:Sys)(vt:Value)(w:World)(k:Nat)(deeds:List Deed)(A:Option Addr)(cdd:Nat)(HC:DeedCall m s vt w k deeds A) :
  Calls Tryz.prog 164 #[.pointer (some ⟨m.g,0,none⟩),.int .i64 k,.slice A deeds.length cdd] w (Steps m (deedS s k deeds) vt):=by
 by_cases h:(deeds.length:Int)≤(s.t k).pos
 ·exact deed_end m s vt w k deeds A cdd HC h
 ·have hp0:=HC.hp0
  have hql:(s.t k).pos.toNat<deeds.length:=by omega
  have hd:=HC.hok _ (List.getElem_mem hql)
  have hg:deeds.getD (s.t k).pos.toNat noDeed=deeds[(s.t k).pos.toNat]:=getD_at _ _ _ hql
  rcases deedOk_kinds hd with ⟨e,_,_⟩ | ⟨e,_,_⟩ | ⟨e,_,_⟩ | ⟨e,_,_⟩ | ⟨e,_,_⟩
  ·exact deed_load m s vt w k deeds A cdd HC (by omega) (by rw [hg];exact e)
  ·exact deed_store m s vt w k deeds A cdd HC (by omega) (by rw [hg];exact e)
  ·exact deed_reg m s vt w k deeds A cdd HC (by omega) (by rw [hg];exact .inl e)
  ·exact deed_reg m s vt w k deeds A cdd HC (by omega) (by rw [hg];exact .inr e)
  ·exact deed_need m s vt w k deeds A cdd HC (by omega) (by rw [hg];exact e)
end Go.Proofs.YtjacjafmimgfcaaGreat
