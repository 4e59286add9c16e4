/- The reference's look at a system: who must hold what; the changes that were ended.; The reference's machine: a register gets what a cell has. -/
import Derived.Test.YtjacjafmimgfcaaGreatWap
import Derived.Test.YtjacjafmimgfcaaGreatWaq
import Derived.Test.YtjacjafmimgfcaaGreatWav
set_option maxHeartbeats 4000000
set_option maxRecDepth 100000
set_option linter.unusedVariables false
set_option linter.unusedSimpArgs false
namespace Go.Proofs.YtjacjafmimgfcaaGreat
open Go.RowKit
theorem findPut_from {l:List Put}{c:Int}{k:Nat}(hk:k<l.length)(h:∀ j (hj:j<l.length),j<k→l[j].cell≠c)(he:l[k].cell=c):findPut l c=(k:Int) :=
 findPut_some.2 ⟨hk,he,fun j hj=>h j (by omega) hj⟩
theorem l11Find_calls (l:List Put)(A:Option Addr)(cap:Nat)(c:Int)(w:World)(S:Nat→Prop)(hr:Row kPut w S A l) :
  Calls Tryz.prog 148 #[.slice A l.length cap,.int .i64 c] w fun e w'=>e=.returned (.int .i64 (findPut l c))∧w=w':=by
 have hm:=hr.1
 go_enter Tryz.func148,Tryz.ntmps148
 go_wp2
 go_loop [5] (fun i=>∃ k:Nat,k≤l.length∧i=.int .i64 k∧Hid (∀ j (hj:j<l.length),j<k→l[j].cell≠c)) (fun i=>l.length-(intOf i).toNat)
 case atStart=>exact⟨0,Nat.zero_le _,rfl,by unfold Hid;intro j _ h;omega⟩
 case round =>
  obtain⟨k,hk,rfl,HA⟩:=hrel
  by_cases hlt:k<l.length
  ·obtain⟨ad,rfl,hl,c0,c1⟩:=at_put hr hlt
   have x1:(k:Int)<l.length:=by omega
   have x3:(0:Int)≤k:=by omega
   by_cases he:l[k].cell=c
   ·have b1:(l[k].cell == c)=true:=by simp [he]
    have HF:=Lib.hid (findPut_from hlt HA.out he)
    clear he
    go_wp2
    go_ret
    exact⟨ret_int HF.out.symm,rfl⟩
   ·have b1:(l[k].cell == c)=false:=by simp [he]
    have HE:=Lib.hid he
    clear he
    go_wp2
    go_round
    case rel=>exact⟨k+1,by omega,by go_num,by
     unfold Hid
     intro j hj hjk
     rcases Nat.lt_or_ge j k with h | h
     ·exact HA.out j hj h
     ·have:j=k:=by omega
      subst this;exact HE.out⟩
    case measure=>simp [intOf];omega
  ·have HF:Hid (findPut l c=-1):=Lib.hid (findPut_none.2 fun x hx=>by
    obtain⟨j,hj,rfl⟩:=List.mem_iff_getElem.1 hx
    exact HA.out j hj (by omega))
   go_wp2
   go_ret
   exact⟨ret_int HF.out.symm,rfl⟩
theorem l12Holds_calls (t:Task)(c:Int)(R O D U:Option Addr)(cr co cd cu:Nat)(w:World)(S:Nat→Prop)(hU:Row kPut w S U t.puts) :
  Calls Tryz.prog 113 #[.agg #[.int .i64 t.body,.int .i64 t.pc,.int .i64 t.up,.slice R t.regs.length cr,.int .i64 t.way,.int .i64 t.stage,.int .i64 t.pos,.int .i64 t.since,.slice O t.old.length co,.slice D t.reads.length cd,.slice U t.puts.length cu,.int .i64 t.whn,.int .i64 t.frm],.int .i64 c] w fun e w'=>e=.returned (.bool (holds t c))∧Below w.heap.size w w':=by
 have hb:=fun o=>alB w o
 have hU1:=fun o=>hU.belowAll (alB w o)
 obtain⟨f,hf⟩:∃ f,f=findPut t.puts c:=⟨_,rfl⟩
 have HH:Hid (holds t c=if f<0 then false else if t.stage=2 then decide (f<t.pos) else if t.stage=3∨t.stage=4 then true else if t.stage=5 then decide (t.pos≤f) else false):=Lib.hid (by rw [hf];rfl)
 have HF:=Lib.hid hf
 clear hf
 by_cases f0:f<0
 ·go_enter Tryz.func113,Tryz.ntmps113
  go_wp2_with (go_at_call 148;refine(l11Find_calls t.puts _ _ _ _ S (hU1 _)).mono ?_;rintro e w' ⟨rfl,rfl⟩;rw [← HF.out])
  go_ret
  exact⟨ret_bool (by rw [HH.out,if_pos f0]),hb _⟩
 ·have HN:=Lib.hid f0
  have f1:0≤f:=by omega
  by_cases e2:t.stage=2
  ·have b2:(t.stage == 2)=true:=by simp [e2]
   have HE:=Lib.hid e2
   clear e2
   go_enter Tryz.func113,Tryz.ntmps113
   go_wp2_with (go_at_call 148;refine(l11Find_calls t.puts _ _ _ _ S (hU1 _)).mono ?_;rintro e w' ⟨rfl,rfl⟩;rw [← HF.out])
   go_ret
   exact⟨ret_bool (by rw [HH.out,if_neg (show ¬ f<0 by omega),if_pos HE.out]),hb _⟩
  ·have b2:(t.stage == 2)=false:=by simp [e2]
   by_cases e3:t.stage=3
   ·have b3:(t.stage == 3)=true:=by simp [e3]
    have HE:=Lib.hid (And.intro e2 e3)
    clear e2 e3
    go_enter Tryz.func113,Tryz.ntmps113
    go_wp2_with (go_at_call 148;refine(l11Find_calls t.puts _ _ _ _ S (hU1 _)).mono ?_;rintro e w' ⟨rfl,rfl⟩;rw [← HF.out])
    go_ret
    exact⟨ret_bool (by rw [HH.out,if_neg (show ¬ f<0 by omega),if_neg HE.out.1,if_pos (.inl HE.out.2)]),hb _⟩
   ·have b3:(t.stage == 3)=false:=by simp [e3]
    by_cases e4:t.stage=4
    ·have b4:(t.stage == 4)=true:=by simp [e4]
     have HE:=Lib.hid (And.intro e2 e4)
     clear e2 e3 e4
     go_enter Tryz.func113,Tryz.ntmps113
     go_wp2_with (go_at_call 148;refine(l11Find_calls t.puts _ _ _ _ S (hU1 _)).mono ?_;rintro e w' ⟨rfl,rfl⟩;rw [← HF.out])
     go_ret
     exact⟨ret_bool (by rw [HH.out,if_neg (show ¬ f<0 by omega),if_neg HE.out.1,if_pos (.inr HE.out.2)]),hb _⟩
    ·have b4:(t.stage == 4)=false:=by simp [e4]
     by_cases e5:t.stage=5
     ·have b5:(t.stage == 5)=true:=by simp [e5]
      have HE:=Lib.hid (And.intro e2 (And.intro (show ¬ (t.stage=3∨t.stage=4) by omega) e5))
      clear e2 e3 e4 e5
      go_enter Tryz.func113,Tryz.ntmps113
      go_wp2_with (go_at_call 148;refine(l11Find_calls t.puts _ _ _ _ S (hU1 _)).mono ?_;rintro e w' ⟨rfl,rfl⟩;rw [← HF.out])
      go_ret
      exact⟨ret_bool (by rw [HH.out,if_neg (show ¬ f<0 by omega),if_neg HE.out.1,if_neg HE.out.2.1,if_pos HE.out.2.2]),hb _⟩
     ·have b5:(t.stage == 5)=false:=by simp [e5]
      have HE:=Lib.hid (And.intro e2 (And.intro (show ¬ (t.stage=3∨t.stage=4) by omega) e5))
      clear e2 e3 e4 e5
      go_enter Tryz.func113,Tryz.ntmps113
      go_wp2_with (go_at_call 148;refine(l11Find_calls t.puts _ _ _ _ S (hU1 _)).mono ?_;rintro e w' ⟨rfl,rfl⟩;rw [← HF.out])
      go_ret
      exact⟨ret_bool (by rw [HH.out,if_neg (show ¬ f<0 by omega),if_neg HE.out.1,if_neg HE.out.2.1,if_neg HE.out.2.2]),hb _⟩
end Go.Proofs.YtjacjafmimgfcaaGreat
namespace Go.Proofs.YtjacjafmimgfcaaGreat
open Go.RowKit
attribute [local go_sem ↓] Go.wp_at_zero Go.wp_at_succ
section
variable {m:Mc}{R:Nat→Role}{w:World}{vc vl:Value}{s:Sys}{ts:List TV}{es:List EV}{k gt n cap cr:Nat}{t:Task}{Ar:Option Addr}{o d u:Value}
theorem MachO.reg (h:MachO m R w vc (.slice (some ⟨gt,0,none⟩) n cap) vl s ts es)(hx:ts[k]?=some ⟨t,.slice Ar t.regs.length cr,o,d,u⟩){a:Nat}(ha:a<t.regs.length) :
  ∃ gr,Ar=some ⟨gr,0,none⟩∧gr<w.heap.size∧gr≠m.g∧gr≠gt∧w.cell? ⟨gr,a,none⟩=some (.int .i64 t.regs[a])∧∀ i,w.frozen? ⟨gr,i,none⟩=false:=by
 have hx':=h.sys.tt k _ hx
 obtain⟨gr,c,e,h1,h2,_,_⟩:=Own.place hx'.r (by simp only;omega)
 simp only at e
 injection e with e1 e2 e3
 subst e1;subst e3
 have hR:=hx'.Rr gr rfl
 obtain⟨cc,hcc,hc,hf⟩:=Own.cellAt hx'.r ha
 obtain⟨rfl,_⟩:=hcc
 have:=hc 0 _ rfl
 have hs:Kd.int.sz=1:=rfl
 rw [hs,Nat.mul_one,Nat.add_zero] at this
 exact⟨gr,rfl,h2,(fun e=>by rw [e,h.run] at hR;cases hR),(fun e=>by rw [e,h.sys.Rt gt rfl] at hR;cases hR),this,hf⟩
theorem MachO.setReg {gr:Nat}{vt:Value}(h:MachO m R w vc vt vl s ts es)(hx:ts[k]?=some ⟨t,.slice (some ⟨gr,0,none⟩) t.regs.length cr,o,d,u⟩){a:Nat}(ha:a<t.regs.length)(v:Int)(hv:isI v) :
  MachO m R (w.setCell ⟨gr,a,none⟩ (.int .i64 v)) vc vt vl (s.setT k { t with regs:=t.regs.set a v }) (ts.set k ⟨{ t with regs:=t.regs.set a v },.slice (some ⟨gr,0,none⟩) t.regs.length cr,o,d,u⟩) es:=by
 have hx':=h.sys.tt k _ hx
 have h1:OwnI 3 w m.base (.slice (some ⟨gr,0,none⟩) t.regs.length cr) t.regs:=hx'.r
 exact h.regs hx (Keep.setCell (T:=fun k=>Value.ownBlock (.slice (some ⟨gr,0,none⟩) t.regs.length cr)=some k) (p:=⟨gr,a,none⟩) (Keep.refl _ w) (fun _=>rfl) _) (h1.set_ ha v hv)
end
theorem isI_num {n:Int}(h0:0≤n)(h1:n≤99):isI n:=by unfold isI;omega
theorem load_calls (m:Mc)(s:Sys)(vt:Value)(w:World)(k:Nat)(d:Deed)(h:Mach m s vt w)(hk:k<s.tasks.length)(hI:SInv m.p s)(hp0:0≤(s.t k).pos)(hp1:(s.t k).pos≤1000)(ha0:0≤d.a)(ha1:d.a≤2)(hc0:0≤d.b)(hc1:d.b<s.cells.length) :
  Calls Tryz.prog 171 #[.pointer (some ⟨m.g,0,none⟩),.int .i64 k,.agg #[.int .i64 d.kind,.int .i64 d.a,.int .i64 d.b]] w (Steps m (loadS s k d) vt):=by
 have HM:=Lib.hid h
 obtain⟨R,vc,vl,ts,es,H⟩:=h
 obtain⟨gt,cap,Ar,cr,Ao,co,Ad,cd,Au,cu,rfl,hx,hr,ho,hd,hu⟩:=H.at_ hk
 have hmax:=H.max
 have hS:=hI.small hk
 obtain⟨hne,hlt,hgl,g2,g3,g4,g5,hat,hfz,hfg⟩:=H.see hx
 obtain⟨gr,rfl,hlr0,-,-,-,-⟩:=H.reg hx (a:=0) (by have:=hS.regs;omega)
 have c0:=hat.c0;have c1:=hat.c1;have c2:=hat.c2;have c3:=hat.c3;have c4:=hat.c4;have c5:=hat.c5;have c6:=hat.c6;have c7:=hat.c7;have c8:=hat.c8;have c9:=hat.c9;have c10:=hat.c10;have c11:=hat.c11;have c12:=hat.c12
 have x1:(k:Int)<s.tasks.length:=by omega
 have x3:(0:Int)≤k:=by omega
 have hreg:(s.t k).regs.length=3:=hS.regs
 have y1:d.a<(s.t k).regs.length:=by omega
 have hw1:IntKind.i64.wrap ((s.t k).pos+1)=(s.t k).pos+1:=IntWalk.i64_in _ (by omega)
 have HR3:=Lib.hid hreg
 clear hreg
 have hpl:=hS.puts
 have hdl:=hS.reads
 have HO:=Lib.hid (show (s.t k).old.length≤1000000 by have:=hS.old;omega)
 have HH:=Lib.hid (And.intro H hx)
 have HS:=Lib.hid hS
 have hT:=hI.t k hk
 have HT:=Lib.hid (And.intro (putsOk_sorted hT.reads) (And.intro (fun x hx=>putsOk_mem hT.puts (x:=x) hx) (fun i hi=>hI.cell i hi)))
 clear H hx hat ho hr hS hI hT
 rcases findPut_cases (s.t k).puts d.b with ⟨hf,_⟩ | ⟨i,hi,hf,_,_⟩
 rotate_left
 ·obtain⟨bu,ou,rfl,hbu,p0,p1⟩:=put_lit hu hi
  have HL:=Lib.hid (show loadS s k d=s.setT k (stepT { s.t k with regs:=(s.t k).regs.set d.a.toNat (s.t k).puts[i].num }) by unfold loadS;dsimp only;rw [if_pos (by omega),hf,Int.toNat_natCast,getD_at _ _ _ hi])
  have HF:=Lib.hid hf
  have z1:(i:Int)<(s.t k).puts.length:=by omega
  have z3:(0:Int)≤i:=by omega
  have hnum:=HT.out.2.1 _ (List.getElem_mem hi)
  have HN:=Lib.hid (isI_num hnum.2.2.1 hnum.2.2.2)
  clear hf hnum
  go_enter Tryz.func171,Tryz.ntmps171
  go_wp2_with (go_at_call 148;go_must (refine(l11Find_calls (s.t k).puts _ _ d.b _ _ (hu.belowAll (alB2 w _ _))).mono ?_;rintro e w2 ⟨rfl,rfl⟩;rw [HF.out]))
  obtain⟨W,HW⟩:∃ W,W=(w.alloc (.cells #[.int .i64 d.kind,.int .i64 d.a,.int .i64 d.b] 124)).alloc (.cells #[.int .i64 (s.t k).body,.int .i64 (s.t k).pc,.int .i64 (s.t k).up,.slice (some ⟨gr,0,none⟩) (s.t k).regs.length cr,.int .i64 (s.t k).way,.int .i64 (s.t k).stage,.int .i64 (s.t k).pos,.int .i64 (s.t k).since,.slice Ao (s.t k).old.length co,.slice Ad (s.t k).reads.length cd,.slice (some ⟨bu,ou,none⟩) (s.t k).puts.length cu,.int .i64 (s.t k).whn,.int .i64 (s.t k).frm] 118):=⟨_,rfl⟩
  have hbW:Below w.heap.size w W:=by rw [HW];exact alB2 w _ _
  have hzW:W.heap.size=w.heap.size+2:=by rw [HW];simp
  have qD:W.heap[w.heap.size]?=some (.cells #[.int .i64 d.kind,.int .i64 d.a,.int .i64 d.b] 124 (0,0)):=by rw [HW];exact(Below.heap_alloc _ _ _ (by simp)).trans (heap_alloc_new w _)
  have qB:W.heap[w.heap.size+1]?=some (.cells #[.int .i64 (s.t k).body,.int .i64 (s.t k).pc,.int .i64 (s.t k).up,.slice (some ⟨gr,0,none⟩) (s.t k).regs.length cr,.int .i64 (s.t k).way,.int .i64 (s.t k).stage,.int .i64 (s.t k).pos,.int .i64 (s.t k).since,.slice Ao (s.t k).old.length co,.slice Ad (s.t k).reads.length cd,.slice (some ⟨bu,ou,none⟩) (s.t k).puts.length cu,.int .i64 (s.t k).whn,.int .i64 (s.t k).frm] 118 (0,0)):=by rw [HW];have:=heap_alloc_new (w.alloc (.cells #[.int .i64 d.kind,.int .i64 d.a,.int .i64 d.b] 124)) (.cells #[.int .i64 (s.t k).body,.int .i64 (s.t k).pc,.int .i64 (s.t k).up,.slice (some ⟨gr,0,none⟩) (s.t k).regs.length cr,.int .i64 (s.t k).way,.int .i64 (s.t k).stage,.int .i64 (s.t k).pos,.int .i64 (s.t k).since,.slice Ao (s.t k).old.length co,.slice Ad (s.t k).reads.length cd,.slice (some ⟨bu,ou,none⟩) (s.t k).puts.length cu,.int .i64 (s.t k).whn,.int .i64 (s.t k).frm] 118);simpa using this
  rw [← HW]
  clear HW
  have f1:W.cell? ⟨w.heap.size,1,none⟩=some (.int .i64 d.a):=cell_of_row W _ 1 _ _ _ qD
  have f2:W.cell? ⟨w.heap.size,2,none⟩=some (.int .i64 d.b):=cell_of_row W _ 2 _ _ _ qD
  obtain⟨e0,e1,e2,e3,e4,e5,e6,e7,e8,e9,e10,e11,e12⟩:=block13 qB
  have H1:=HH.out.1.below hbW
  obtain⟨_,hltW,hglW,g2W,g3W,_,_,hatW,hfzW,_⟩:=H1.see HH.out.2
  have c3W:=hatW.c3
  obtain⟨gr',er,hlr,hrg,hrt,r0,rf⟩:=H1.reg HH.out.2 (a:=d.a.toNat) (by rw [HS.out.regs];omega)
  injection er with er
  injection er with er
  subst er
  have hr1:gr≠w.heap.size:=by omega
  have hr2:gr≠w.heap.size+1:=by omega
  have HZ:=Lib.hid hzW
  clear qD qB e0 e1 e2 e3 e4 e5 e7 e8 e11 e12 hatW g2 g3 g4 g5 hfz hfg c0 c1 c2 c3 c4 c5 c6 c7 c8 c9 c10 c11 c12 hzW
  have p1W:=(hbW.cell (p:=⟨bu,ou+i*2+1,none⟩) hbu).trans p1
  have H2:=(H1.setReg HH.out.2 (a:=d.a.toNat) (by have:=HR3.out;omega) (s.t k).puts[i].num HN.out).below ((Below.refl _ _).drew)
  have hx2:=ts_set (y:=⟨{ s.t k with regs:=(s.t k).regs.set d.a.toNat (s.t k).puts[i].num },.slice (some ⟨gr,0,none⟩) (s.t k).regs.length cr,.slice Ao (s.t k).old.length co,.slice Ad (s.t k).reads.length cd,.slice (some ⟨bu,ou,none⟩) (s.t k).puts.length cu⟩) HH.out.2
  have H2':=Lib.hid H2
  clear H1 H2
  go_still_tail 18,(by kernel_rfl)
  go_wp2
  obtain⟨W2,HW2⟩:∃ W2,W2=(W.setCell ⟨gr,d.a.toNat,none⟩ (.int .i64 (s.t k).puts[i].num)).drew:=⟨_,rfl⟩
  have H2:=H2'.out
  have q6:W2.cell? ⟨w.heap.size+1,6,none⟩=some (.int .i64 (s.t k).pos):=by rw [HW2];exact cell_far e6 hr2
  rw [← HW2] at H2 ⊢
  clear HW2 e6 e9 e10 H2' g2W g3W hfzW c3W r0 rf p0 p1 p1W f1 f2
  obtain⟨_,hltX,hglX,_,g3X,_,_,hatX,hfzX,_⟩:=H2.see hx2
  have c6X:=hatX.c6
  have HZZ:=(H2.int hx2 6 (by omega) ((s.t k).pos+1) (stepT ({ s.t k with regs:=(s.t k).regs.set d.a.toNat (s.t k).puts[i].num })) rfl rfl rfl rfl rfl).below ((Below.refl _ _).drew)
  simp only [setT_setT] at HZZ
  have HMZ:=Lib.hid HZZ.mach
  clear H2 HZZ hatX
  go_still_tail 11,(by kernel_rfl)
  go_wp2
  go_end0
  exact⟨rfl,by rw [HL.out];exact HMZ.out⟩
 ·have HF:=Lib.hid hf
  obtain⟨hcl,hsc⟩:=sys_ci hc0 hc1
  have hlb:loadS s k d=if blind s k d.b then againS s k else s.setT k (stepT { s.t k with regs:=(s.t k).regs.set d.a.toNat (s.cells[d.b.toNat]).num,reads:=addPut (s.t k).reads ⟨d.b,(s.cells[d.b.toNat]).num⟩ }):=by
   unfold loadS;dsimp only;rw [if_neg (by rw [hf];decide),hsc]
  have HL:=Lib.hid hlb
  have HM2:=Lib.hid (fun o1 o2=>HM.out.below (alB2 w o1 o2))
  have HC:=Lib.hid (And.intro hc0 hc1)
  clear hlb hf hsc
  cases hbd:blind s k d.b with
  | true =>
   have HB:=Lib.hid hbd
   clear hbd
   go_enter Tryz.func171,Tryz.ntmps171
   go_wp2_with (first
    | (go_at_call 148;go_must (refine(l11Find_calls (s.t k).puts _ _ d.b _ _ (hu.belowAll (alB2 w _ _))).mono ?_;rintro e w2 ⟨rfl,rfl⟩;rw [HF.out])) | (go_at_call 173;go_must (refine(blind_calls m s _ _ k _ (HM2.out _ _) hk HC.out.1 HC.out.2).mono ?_;rintro e w2 ⟨rfl,hb2⟩;rw [HB.out];have HM3:=Lib.hid ((HM2.out _ _).below hb2))) | (go_at_call 169;go_must (refine(again_calls m s _ _ k HM3.out hk HO.out).mono ?_;rintro e w3 ⟨rfl,H3⟩)))
   go_end0
   exact⟨rfl,by rw [HL.out,HB.out];exact H3⟩
  | false =>
   have HB:=Lib.hid hbd
   clear hbd
   have hnum:=HT.out.2.2 d.b.toNat hcl
   have hnm:(s.c (d.b.toNat:Int)).num=(s.cells[d.b.toNat]).num:=by rw [sys_c hcl]
   have HN:=Lib.hid (isI_num (n:=(s.cells[d.b.toNat]).num) (by rw [← hnm];exact hnum.1) (by rw [← hnm];exact hnum.2.1))
   clear hnum hnm
   go_enter Tryz.func171,Tryz.ntmps171
   go_wp2_with (first
    | (go_at_call 148;go_must (refine(l11Find_calls (s.t k).puts _ _ d.b _ _ (hu.belowAll (alB2 w _ _))).mono ?_;rintro e w2 ⟨rfl,rfl⟩;rw [HF.out])) | (go_at_call 173;go_must (refine(blind_calls m s _ _ k _ (HM2.out _ _) hk HC.out.1 HC.out.2).mono ?_;rintro e W ⟨rfl,hb2⟩;rw [HB.out];have qD:=(hb2.block w.heap.size (by simp;omega)).trans ((Below.heap_alloc _ _ _ (by simp)).trans (heap_alloc_new w (.cells #[.int .i64 d.kind,.int .i64 d.a,.int .i64 d.b] 124)));have qB:=(hb2.block (w.heap.size+1) (by simp)).trans (show ((w.alloc (.cells #[.int .i64 d.kind,.int .i64 d.a,.int .i64 d.b] 124)).alloc (.cells #[.int .i64 (s.t k).body,.int .i64 (s.t k).pc,.int .i64 (s.t k).up,.slice (some ⟨gr,0,none⟩) (s.t k).regs.length cr,.int .i64 (s.t k).way,.int .i64 (s.t k).stage,.int .i64 (s.t k).pos,.int .i64 (s.t k).since,.slice Ao (s.t k).old.length co,.slice Ad (s.t k).reads.length cd,.slice Au (s.t k).puts.length cu,.int .i64 (s.t k).whn,.int .i64 (s.t k).frm] 118)).heap[w.heap.size+1]?=some (.cells #[.int .i64 (s.t k).body,.int .i64 (s.t k).pc,.int .i64 (s.t k).up,.slice (some ⟨gr,0,none⟩) (s.t k).regs.length cr,.int .i64 (s.t k).way,.int .i64 (s.t k).stage,.int .i64 (s.t k).pos,.int .i64 (s.t k).since,.slice Ao (s.t k).old.length co,.slice Ad (s.t k).reads.length cd,.slice Au (s.t k).puts.length cu,.int .i64 (s.t k).whn,.int .i64 (s.t k).frm] 118 (0,0)) by have:=heap_alloc_new (w.alloc (.cells #[.int .i64 d.kind,.int .i64 d.a,.int .i64 d.b] 124)) (.cells #[.int .i64 (s.t k).body,.int .i64 (s.t k).pc,.int .i64 (s.t k).up,.slice (some ⟨gr,0,none⟩) (s.t k).regs.length cr,.int .i64 (s.t k).way,.int .i64 (s.t k).stage,.int .i64 (s.t k).pos,.int .i64 (s.t k).since,.slice Ao (s.t k).old.length co,.slice Ad (s.t k).reads.length cd,.slice Au (s.t k).puts.length cu,.int .i64 (s.t k).whn,.int .i64 (s.t k).frm] 118);simpa using this);have hbW:=below_then (alB2 w _ _) (by simp;omega) hb2)))
   have hlbW:w.heap.size+1<W.heap.size:=by have:=hb2.size;simp at this;omega
   have f1:W.cell? ⟨w.heap.size,1,none⟩=some (.int .i64 d.a):=cell_of_row W _ 1 _ _ _ qD
   have f2:W.cell? ⟨w.heap.size,2,none⟩=some (.int .i64 d.b):=cell_of_row W _ 2 _ _ _ qD
   obtain⟨e0,e1,e2,e3,e4,e5,e6,e7,e8,e9,e10,e11,e12⟩:=block13 qB
   have H1:=HH.out.1.below hbW
   obtain⟨_,hltW,hglW,g2W,g3W,_,_,hatW,hfzW,_⟩:=H1.see HH.out.2
   have c3W:=hatW.c3
   obtain⟨gr',er,hlr,hrg,hrt,r0,rf⟩:=H1.reg HH.out.2 (a:=d.a.toNat) (by rw [HS.out.regs];omega)
   injection er with er
   injection er with er
   subst er
   obtain⟨gc,capc,evc,hRc,hbc,hlc,hnec,d0,d1,d2,hfzc⟩:=H1.cellAt hcl
   subst evc
   have hcm:s.cells.length≤9223372036854775807:=by obtain⟨A,c,_,h⟩:=H1.cmax;exact h
   have hgct:gc≠gt:=fun e=>by have h1:=H1.sys.Rt gt rfl;rw [e,h1] at hRc;cases hRc
   have hgcr:gr≠gc:=fun e=>by have h1:=(H1.sys.tt k _ HH.out.2).Rr gr rfl;rw [e,hRc] at h1;cases h1
   have y4:=HC.out.1
   have y5:=HC.out.2
   have hr1:gr≠w.heap.size:=by omega
   have hr2:gr≠w.heap.size+1:=by omega
   have hG1:gt≠w.heap.size:=by omega
   have hG2:gt≠w.heap.size+1:=by omega
   have H2:=(H1.setReg HH.out.2 (a:=d.a.toNat) (by have:=HR3.out;omega) (s.cells[d.b.toNat]).num HN.out).below ((Below.refl _ _).drew)
   have hx2:=ts_set (y:=⟨{ s.t k with regs:=(s.t k).regs.set d.a.toNat (s.cells[d.b.toNat]).num },.slice (some ⟨gr,0,none⟩) (s.t k).regs.length cr,.slice Ao (s.t k).old.length co,.slice Ad (s.t k).reads.length cd,.slice Au (s.t k).puts.length cu⟩) HH.out.2
   have H2':=Lib.hid H2
   clear qD qB e0 e1 e2 e3 e4 e5 e7 e8 e11 e12 hatW g2 g3 g4 g5 hfz hfg c0 c1 c2 c3 c4 c5 c6 c7 c8 c9 c10 c11 c12 H1 H2
   go_still_tail 22,(by kernel_rfl)
   go_wp2
   obtain⟨W2,HW2⟩:∃ W2,W2=(W.setCell ⟨gr,d.a.toNat,none⟩ (.int .i64 (s.cells[d.b.toNat]).num)).drew:=⟨_,rfl⟩
   have H2:=H2'.out
   have q6:W2.cell? ⟨w.heap.size+1,6,none⟩=some (.int .i64 (s.t k).pos):=by rw [HW2];exact cell_far e6 hr2
   have q9:W2.cell? ⟨w.heap.size+1,9,none⟩=some (.slice Ad (s.t k).reads.length cd):=by rw [HW2];exact cell_far e9 hr2
   have q2:W2.cell? ⟨w.heap.size,2,none⟩=some (.int .i64 d.b):=by rw [HW2];exact cell_far f2 hr1
   have q0:W2.cell? ⟨gc,d.b.toNat*3,none⟩=some (.int .i64 (s.cells[d.b.toNat]).num):=by rw [HW2];exact cell_far d0 hgcr
   have hl2:W.heap.size=W2.heap.size:=by rw [HW2];simp
   rw [← HW2] at H2 ⊢
   clear HW2 e6 e9 e10 H2' g2W g3W hfzW c3W r0 rf f1 f2 d0 d1 d2 hfzc
   obtain⟨_,hltX,hglX,p2,p3,_,_,hatX,hfzX,_⟩:=H2.see hx2
   have c9X:=hatX.c9
   obtain⟨Ad',cd',ed,_,hdr⟩:=(H2.sys.tt k _ hx2).d.row
   simp only at ed hdr
   injection ed with ed1 ed2 ed3
   subst ed1
   have H2':=Lib.hid H2
   clear H2 hatX ed2 ed3
   refine wp_region_noPanic ?_
   refine wp_region_head 22 (fun w'=>w'.cell? ⟨m.g,3,none⟩=some (.slice (some ⟨gt,0,none⟩) s.tasks.length cap)∧w'.cell? ⟨m.g,2,none⟩=some (.slice (some ⟨gc,0,none⟩) s.cells.length capc)∧w'.cell? ⟨w.heap.size+1,9,none⟩=some (.slice Ad (s.t k).reads.length cd)∧w'.cell? ⟨w.heap.size,2,none⟩=some (.int .i64 d.b)∧w'.cell? ⟨gc,d.b.toNat*3,none⟩=some (.int .i64 (s.cells[d.b.toNat]).num)) (by kernel_rfl) (by kernel_rfl) (by (try dsimp only)<;>(first | (go_keep;done) | (go_split_ands;exact⟨v1,v2,v3,v4,v5⟩))) (fun hHeld=>?_)
   refine head_take (i:=0) (v:=_) (by kernel_rfl) rfl (by kernel_rfl) (by kernel_rfl) (by kernel_rfl) (fun _ _ _ h=>h) (Or.inl ⟨by rfl,by (intro w hSw;(try dsimp only at hSw);go_simp<;>with_reducible rfl)⟩) (by assumption) ?_
   (try simp only [q1,q2,q3,Act.put,q4,q5,q6])
   refine head_take (i:=1) (v:=_) (by kernel_rfl) rfl (by kernel_rfl) (by kernel_rfl) (by kernel_rfl) (fun _ _ _ h=>h) (Or.inl ⟨by rfl,by (intro w hSw;(try dsimp only at hSw);go_simp<;>with_reducible rfl)⟩) (by assumption) ?_
   (try simp only [q1,q2,q3,Act.put,q4,q5,q6])
   refine head_take (i:=2) (v:=_) (by kernel_rfl) rfl (by kernel_rfl) (by kernel_rfl) (by kernel_rfl) (fun _ _ _ h=>h) (Or.inl ⟨by rfl,by (intro w hSw;(try dsimp only at hSw);go_simp<;>with_reducible rfl)⟩) (by assumption) ?_
   (try simp only [q1,q2,q3,Act.put,q4,q5,q6])
   refine head_take (i:=3) (v:=_) (by kernel_rfl) rfl (by kernel_rfl) (by kernel_rfl) (by kernel_rfl) (fun _ _ _ h=>h) (Or.inl ⟨by rfl,by (intro w hSw;(try dsimp only at hSw);go_simp<;>with_reducible rfl)⟩) (by assumption) ?_
   (try simp only [q1,q2,q3,Act.put,q4,q5,q6])
   refine head_take (i:=4) (v:=_) (by kernel_rfl) rfl (by kernel_rfl) (by kernel_rfl) (by kernel_rfl) (fun _ _ _ h=>h) (Or.inl ⟨by rfl,by (intro w hSw;(try dsimp only at hSw);go_simp<;>with_reducible rfl)⟩) (by assumption) ?_
   (try simp only [q1,q2,q3,Act.put,q4,q5,q6])
   refine head_take (i:=5) (v:=_) (by kernel_rfl) rfl (by kernel_rfl) (by kernel_rfl) (by kernel_rfl) (fun _ _ _ h=>h) (Or.inl ⟨by rfl,by (intro w hSw;(try dsimp only at hSw);go_simp<;>with_reducible rfl)⟩) (by assumption) ?_
   (try simp only [q1,q2,q3,Act.put,q4,q5,q6])
   refine head_take (i:=6) (v:=_) (by kernel_rfl) rfl (by kernel_rfl) (by kernel_rfl) (by kernel_rfl) (fun _ _ _ h=>h) (Or.inl ⟨by rfl,by (intro w hSw;(try dsimp only at hSw);go_simp<;>with_reducible rfl)⟩) (by assumption) ?_
   (try simp only [q1,q2,q3,Act.put,q4,q5,q6])
   refine head_take (i:=7) (v:=_) (by kernel_rfl) rfl (by kernel_rfl) (by kernel_rfl) (by kernel_rfl) (fun _ _ _ h=>h) (Or.inl ⟨by rfl,by (intro w hSw;(try dsimp only at hSw);go_simp<;>with_reducible rfl)⟩) (by assumption) ?_
   (try simp only [q1,q2,q3,Act.put,q4,q5,q6])
   refine head_take (i:=8) (v:=_) (by kernel_rfl) rfl (by kernel_rfl) (by kernel_rfl) (by kernel_rfl) (fun _ _ _ h=>h) (Or.inl ⟨by rfl,by (intro w hSw;(try dsimp only at hSw);go_simp<;>with_reducible rfl)⟩) (by assumption) ?_
   (try simp only [q1,q2,q3,Act.put,q4,q5,q6])
   refine head_take (i:=9) (v:=_) (by kernel_rfl) rfl (by kernel_rfl) (by kernel_rfl) (by kernel_rfl) (fun _ _ _ h=>h) (Or.inl ⟨by rfl,by (intro w hSw;(try dsimp only at hSw);go_simp<;>with_reducible rfl)⟩) (by assumption) ?_
   (try simp only [q1,q2,q3,Act.put,q4,q5,q6])
   refine head_take (i:=10) (v:=_) (by kernel_rfl) rfl (by kernel_rfl) (by kernel_rfl) (by kernel_rfl) (fun _ _ _ h=>h) (Or.inl ⟨by rfl,by (intro w hSw;(try dsimp only at hSw);go_simp<;>with_reducible rfl)⟩) (by assumption) ?_
   (try simp only [q1,q2,q3,Act.put,q4,q5,q6])
   refine head_take (i:=11) (v:=_) (by kernel_rfl) rfl (by kernel_rfl) (by kernel_rfl) (by kernel_rfl) (fun _ _ _ h=>h) (Or.inl ⟨by rfl,by (intro w hSw;(try dsimp only at hSw);go_simp<;>with_reducible rfl)⟩) (by assumption) ?_
   (try simp only [q1,q2,q3,Act.put,q4,q5,q6])
   refine head_take (i:=12) (v:=_) (by kernel_rfl) rfl (by kernel_rfl) (by kernel_rfl) (by kernel_rfl) (fun _ _ _ h=>h) (Or.inl ⟨by rfl,by (intro w hSw;(try dsimp only at hSw);go_simp<;>with_reducible rfl)⟩) (by assumption) ?_
   (try simp only [q1,q2,q3,Act.put,q4,q5,q6])
   refine head_take (i:=13) (v:=_) (by kernel_rfl) rfl (by kernel_rfl) (by kernel_rfl) (by kernel_rfl) (fun _ _ _ h=>h) (Or.inl ⟨by rfl,by (intro w hSw;(try dsimp only at hSw);go_simp<;>with_reducible rfl)⟩) (by assumption) ?_
   (try simp only [q1,q2,q3,Act.put,q4,q5,q6])
   refine head_take (i:=14) (v:=_) (by kernel_rfl) rfl (by kernel_rfl) (by kernel_rfl) (by kernel_rfl) (fun _ _ _ h=>h) (Or.inl ⟨by rfl,by (intro w hSw;(try dsimp only at hSw);go_simp<;>with_reducible rfl)⟩) (by assumption) ?_
   (try simp only [q1,q2,q3,Act.put,q4,q5,q6])
   refine head_take (i:=15) (v:=_) (by kernel_rfl) rfl (by kernel_rfl) (by kernel_rfl) (by kernel_rfl) (fun _ _ _ h=>h) (Or.inl ⟨by rfl,by (intro w hSw;(try dsimp only at hSw);go_simp<;>with_reducible rfl)⟩) (by assumption) ?_
   (try simp only [q1,q2,q3,Act.put,q4,q5,q6])
   refine head_take (i:=16) (v:=_) (by kernel_rfl) rfl (by kernel_rfl) (by kernel_rfl) (by kernel_rfl) (fun _ _ _ h=>h) (Or.inl ⟨by rfl,by (intro w hSw;(try dsimp only at hSw);go_simp<;>with_reducible rfl)⟩) (by assumption) ?_
   (try simp only [q1,q2,q3,Act.put,q4,q5,q6])
   refine head_take (i:=17) (v:=_) (by kernel_rfl) rfl (by kernel_rfl) (by kernel_rfl) (by kernel_rfl) (fun _ _ _ h=>h) (Or.inl ⟨by rfl,by (intro w hSw;(try dsimp only at hSw);go_simp<;>with_reducible rfl)⟩) (by assumption) ?_
   (try simp only [q1,q2,q3,Act.put,q4,q5,q6])
   refine head_take (i:=18) (v:=_) (by kernel_rfl) rfl (by kernel_rfl) (by kernel_rfl) (by kernel_rfl) (fun _ _ _ h=>h) (Or.inl ⟨by rfl,by (intro w hSw;(try dsimp only at hSw);go_simp<;>with_reducible rfl)⟩) (by assumption) ?_
   (try simp only [q1,q2,q3,Act.put,q4,q5,q6])
   refine head_take (i:=19) (v:=_) (by kernel_rfl) rfl (by kernel_rfl) (by kernel_rfl) (by kernel_rfl) (fun _ _ _ h=>h) (Or.inl ⟨by rfl,by (intro w hSw;(try dsimp only at hSw);go_simp<;>with_reducible rfl)⟩) (by assumption) ?_
   (try simp only [q1,q2,q3,Act.put,q4,q5,q6])
   refine head_take (i:=20) (v:=_) (by kernel_rfl) rfl (by kernel_rfl) (by kernel_rfl) (by kernel_rfl) (fun _ _ _ h=>h) (Or.inl ⟨by rfl,by (intro w hSw;(try dsimp only at hSw);go_simp<;>with_reducible rfl)⟩) (by assumption) ?_
   (try simp only [q1,q2,q3,Act.put,q4,q5,q6])
   refine head_next (i:=21) rfl (by kernel_rfl) (by kernel_rfl) (fun Kq hKq=>?_)
   (try simp only [q1,q2,q3])
   refine step_hold (a:=⟨_,_⟩) ?_
   go_simp
   (refine(l11Add_calls (s.t k).reads ⟨d.b,(s.cells[d.b.toNat]).num⟩ Ad cd _ _ (hdr.belowAll (Below.refl _ _).drew) (by omega) HT.out.1).mono ?_;rintro e w4 ⟨v4',rfl,ho4,hc4⟩;obtain⟨A4,c4,rfl,_⟩:=Own.slice ho4;have v1:=(hc4.cell (p:=⟨m.g,3,none⟩) (by show m.g<W2.heap.size;omega)).trans p3;have v2:=(hc4.cell (p:=⟨m.g,2,none⟩) (by show m.g<W2.heap.size;omega)).trans p2;have v3:=(hc4.cell (p:=⟨w.heap.size+1,9,none⟩) (by show w.heap.size+1<W2.heap.size;omega)).trans q9;have v4:=(hc4.cell (p:=⟨w.heap.size,2,none⟩) (by show w.heap.size<W2.heap.size;omega)).trans q2;have v5:=(hc4.cell (p:=⟨gc,d.b.toNat*3,none⟩) (by show gc<W2.heap.size;omega)).trans q0;have v6:=(hc4.cell (p:=⟨gt,k*13+9,none⟩) hltX).trans c9X;have v7:=(hc4.frozen (p:=⟨gt,k*13+9,none⟩) hltX).trans (hfzX _))
   refine hKq.out _ _ (by (try dsimp only)<;>(first | (go_keep;done) | (go_split_ands;exact⟨v1,v2,v3,v4,v5⟩))) (fun hHeld=>?_)
   clear hKq Kq
   (try simp only [q1,q2,q3,Act.put,q4,q5,q6])
   refine head_done (by kernel_rfl) ?_
   simp only [List.toList_toArray,List.drop_succ_cons,List.drop_zero]
   go_wp2_with fail
   refine NoPanic.normal ?_
   have H2:=H2'.out
   obtain⟨R5,H5⟩:=H2.rowD hx2 (Keep.of_belowAll _ (below_then ((Below.refl _ W2).drew) (Nat.le_refl _) hc4)) (OwnF.lower H2.bl ho4) (fun k' e=>.inr (H2.fresh (OwnF.blk ho4 k' e).1))
   obtain⟨W5,HW5⟩:∃ W5,W5=w4.setCell ⟨gt,k*13+9,none⟩ (.slice A4 (addPut (s.t k).reads ⟨d.b,(s.cells[d.b.toNat]).num⟩).length c4):=⟨_,rfl⟩
   have r6:W5.cell? ⟨w.heap.size+1,6,none⟩=some (.int .i64 (s.t k).pos):=by rw [HW5];exact cell_far ((hc4.cell (p:=⟨w.heap.size+1,6,none⟩) (by show w.heap.size+1<W2.heap.size;omega)).trans q6) hG2
   rw [← HW5] at H5 ⊢
   rw [setT_setT,List.set_set] at H5
   have hx5:=ts_set (y:=⟨{ s.t k with regs:=(s.t k).regs.set d.a.toNat (s.cells[d.b.toNat]).num,reads:=addPut (s.t k).reads ⟨d.b,(s.cells[d.b.toNat]).num⟩ },.slice (some ⟨gr,0,none⟩) (s.t k).regs.length cr,.slice Ao (s.t k).old.length co,.slice A4 (addPut (s.t k).reads ⟨d.b,(s.cells[d.b.toNat]).num⟩).length c4,.slice Au (s.t k).puts.length cu⟩) HH.out.2
   clear HW5 hHeld H2 H2' q6 q9 q2 q0 p2 p3 v1 v2 v3 v4 v5 v6 v7 ho4 hdr hfzX hltX hglX c9X
   go_wp2_with fail
   obtain⟨_,hltX,hglX,_,g3X,_,_,hatX,hfzX,_⟩:=H5.see hx5
   have c6X:=hatX.c6
   have HZZ:=(H5.int hx5 6 (by omega) ((s.t k).pos+1) (stepT { s.t k with regs:=(s.t k).regs.set d.a.toNat (s.cells[d.b.toNat]).num,reads:=addPut (s.t k).reads ⟨d.b,(s.cells[d.b.toNat]).num⟩ }) rfl rfl rfl rfl rfl).below ((Below.refl _ _).drew)
   simp only [setT_setT] at HZZ
   have HMZ:=Lib.hid HZZ.mach
   clear H5 HZZ hatX
   go_still_tail 11,(by kernel_rfl)
   go_wp2
   go_end0
   exact⟨rfl,by rw [HL.out,HB.out];exact HMZ.out⟩
end Go.Proofs.YtjacjafmimgfcaaGreat
