/- A region that draws its order, whose last operations come one behind the other: what is loaded ahead of them may be written by them.; The reference's machine: a change is ended.; A region that draws its order, walked with an invariant: what has come up so far is told by letters, so that each operation is walked once, not once for each order.; A region that draws its order: the first n operations i -/
import Derived.StillTail
import Derived.Deep.RegionHeld3
import Derived.Test.YtjacjafmimgfcaaGreatWam
import Derived.Test.YtjacjafmimgfcaaGreatWan
import Derived.Test.YtjacjafmimgfcaaGreatWao
set_option linter.unusedVariables false
set_option linter.unusedSimpArgs false
namespace Go.Proofs.YtjacjafmimgfcaaGreat
section
variable {P:Program}{md:Region.Mode}{ops:Array Oper}{Q:Exit→Go.Act→World→Prop}{S:World→Prop}{n:Nat}{L:Array Bool→Go.Act→World→Prop}
def HeadH (P:Program) (md:Region.Mode) (ops:Array Oper) (Q:Exit→Go.Act→World→Prop) (S:World→Prop) (n:Nat) (L:Array Bool→Go.Act→World→Prop):Nat→Array Bool→Go.Act→World→Prop
 | 0,listed,a,w=>L listed a w
 | f+1,listed,a,w=>Region.ready md ops listed≠[]∧∀ i ∈ Region.ready md ops listed,i<n∧wpOp P ops Q i (fun a' w'=>S w'∧HeadH P md ops Q S n L f (listed.setIfInBounds i true) a' w') a w
theorem any_of_head {g:Nat}(hL:∀ listed a w,L listed a w→wpAny P md ops Q g listed a w):∀ (f:Nat)(listed:Array Bool)(a:Go.Act)(w:World),HeadH P md ops Q S n L f listed a w→wpAny P md ops Q (f+g) listed a w
 | 0,listed,a,w,h=>by rw [Nat.zero_add];exact hL _ _ _ h
 | f+1,listed,a,w,h=>by
  rw [show f+1+g=(f+g)+1 by omega]
  exact⟨fun h0=>absurd h0 h.1,fun i hi=>wpOp_mono (fun a' w' h'=>any_of_head hL f _ a' w' h'.2) (h.2 i hi).2⟩
theorem head_first {i:Nat}{oi:Oper}{v:Value}(hi:ops[i]?=some oi)(hsel:∀ (j:Nat)(o:Oper) cs b,ops[j]?=some o→o.op≠.select cs b)(hQ:∀ c a w,Q (.panic c) (a.put oi.dst v) w→Q (.panic c) a w)
  (hs:Region.sinkB md ops n=true) (hc:Region.chainB md ops n=true) (hn:n<ops.size) (hin:i<n) (hdone:∀ listed a w,L listed a w→∀ j ∈ Region.ready md ops listed,n≤j) :
  ∀ (f:Nat) (listed:Array Bool) (a:Go.Act) (w:World),HeadInv md ops n listed →
   (∀ j oj,ops[j]?=some oj→j≠i→listed.getD j true=false→(∀ e ∈ oj.after,Region.binds md e=true→e.on≠i)→oi.apart ops oj=true) →
   i ∈ Region.ready md ops listed→YieldsIf P ops S oi v a→S w →
   HeadH P md ops Q S n L f (listed.setIfInBounds i true) (a.put oi.dst v) w→HeadH P md ops Q S n L (f+1) listed a w:=by
 intro f
 induction f with
 | zero =>
  intro listed a w inv _ hr hy hS H
  have hun:=(mem_ready.1 hr).1
  refine⟨fun h=>(by rw [h] at hr;cases hr),fun j hj=>?_⟩
  have hjn:j<n:=(Nat.lt_or_ge j n).elim id fun h=>absurd hj (tail_waits hs hc hn inv _ i rfl hin hun j h)
  refine⟨hjn,?_⟩
  by_cases hji:j=i
  ·subst hji;exact hy.wpOp hi hS ⟨hS,H⟩
  ·have:=hdone _ _ _ H j (ready_mono hj hji)
   omega
 | succ f ih =>
  intro listed a w inv hfree hr hy hS H
  have hun:=(mem_ready.1 hr).1
  refine⟨fun h=>(by rw [h] at hr;cases hr),fun j hj=>?_⟩
  have hjn:j<n:=(Nat.lt_or_ge j n).elim id fun h=>absurd hj (tail_waits hs hc hn inv _ i rfl hin hun j h)
  refine⟨hjn,?_⟩
  by_cases hji:j=i
  ·subst hji;exact hy.wpOp hi hS ⟨hS,H⟩
  ·have h1:=(H.2 j (ready_mono hj hji)).2
   obtain⟨hjun,oj,hoj,hall⟩:=mem_ready.1 hj
   have hnot:∀ e ∈ oj.after,Region.binds md e=true→e.on≠i:=fun e he hb heq=>by
    have h1:=hall e he hb
    rw [heq,getD_both hun] at h1
    cases h1
   have h2:=wpOp_putIf hoj (hfree j oj hoj hji hjun hnot) (fun cs b=>hsel i oi cs b hi) (fun cs b=>hsel j oj cs b hoj) hQ hy h1
   refine wpOp_mono (fun a' w' h3=>⟨h3.2.1,ih (listed.setIfInBounds j true) a' w' (inv.set hj hjn) (fun k ok hk hki hk2 hno=>?_) (ready_mono hr (Ne.symm hji)) h3.1 h3.2.1 ?_⟩) h2
   ·refine hfree k ok hk hki ?_ hno
    by_cases hjk:j=k
    ·subst hjk;exact hjun
    ·rw [getD_set_ne true hjk] at hk2;exact hk2
   ·rw [Array.setIfInBounds_comm _ _ hji]
    exact h3.2.2
structure HeadG (P:Program) (ops:Array Oper) (Q:Exit→Go.Act→World→Prop) (S:World→Prop) (n f:Nat) (listed:Array Bool) (a:Go.Act) (w:World):Prop where
 inv:HeadInv .any ops n listed→HeadH P .any ops Q S n (fun listed' a' w'=>Region.seqB .any ops (ops.size-n) n listed'=true∧wpList P ops Q (ops.toList.drop n) a' w') f listed a w
def headB (ops:Array Oper) (n:Nat):Bool:=Region.noSelect ops && decide (n<ops.size) && Region.sinkB .any ops n && Region.chainB .any ops n
theorem head_take {i f:Nat}{oi:Oper}{v:Value}{listed:Array Bool}{a:Go.Act}{w:World}(hB:headB ops n=true)(hi:ops[i]?=some oi)(hin:(decide (i<n))=true)(hf:Region.free .any ops listed i=true)(hr:(Region.ready .any ops listed).contains i=true)
  (hQ:∀ c a w,Q (.panic c) (a.put oi.dst v) w→Q (.panic c) a w) (hy:YieldsIf P ops S oi v a) (hS:S w)
  (h:HeadG P ops Q S n f (listed.setIfInBounds i true) (a.put oi.dst v) w):HeadG P ops Q S n (f+1) listed a w:=by
 simp only [headB,Bool.and_eq_true,decide_eq_true_eq] at hB
 obtain⟨⟨⟨hsel,hn⟩,hs⟩,hc⟩:=hB
 have hin:=of_decide_eq_true hin
 have hr':i ∈ Region.ready .any ops listed:=by simpa using hr
 exact⟨fun inv=>head_first hi (Region.noSelect_spec hsel) hQ hs hc hn hin (fun _ _ _ hL=>seqB_ready hL.1) f listed a w inv (Region.free_spec hi hf) hr' hy hS (h.inv (inv.set hr' hin))⟩
theorem head_next {i f:Nat}{o:Oper}{listed:Array Bool}{a:Go.Act}{w:World}(ho:ops[i]?=some o)(hin:(decide (i<n))=true)(hr:Region.ready .any ops listed=[i])
  (h:∀ K':Go.Act→World→Prop,Shut (∀ a w,S w→(S w→HeadG P ops Q S n f (listed.setIfInBounds i true) a w)→K' a w)→if Region.wanted o (yielded ops a.tmps)=true then Oper.wp P o a w K' Q else K' (a.put o.dst undef) w) :
  HeadG P ops Q S n (f+1) listed a w:=by
 have hin:=of_decide_eq_true hin
 refine⟨fun inv=>⟨by rw [hr];simp,fun j hj=>?_⟩⟩
 have hr':i ∈ Region.ready .any ops listed:=by rw [hr];simp
 rw [hr] at hj
 have hji:j=i:=by simpa using hj
 subst hji
 refine⟨hin,wpOp_step ho fun K' hK=>h K' fun a w hS hW=>hK a w ⟨hS,(hW hS).inv (inv.set hr' hin)⟩⟩
theorem step_hold {o:Oper}{a:Go.Act}{K:Go.Act→World→Prop}{w:World}{E:Prop}(h:if Region.wanted o (yielded ops a.tmps)=true then Oper.wp P o a w K Q else E):if Region.wanted o (yielded ops a.tmps)=true then Oper.wp P o a w K Q else E:=h
theorem head_done {listed:Array Bool}{a:Go.Act}{w:World}(hr:Region.seqB .any ops (ops.size-n) n listed=true)(h:wpList P ops Q (ops.toList.drop n) a w):HeadG P ops Q S n 0 listed a w:=⟨fun _=>⟨hr,h⟩⟩
theorem wp_region_head {id:Nat}{a:Go.Act}{w:World}{l:List Oper}(n:Nat)(S:World→Prop)(hm:P.follows .mixedOrders=true)(hB:headB l.toArray n=true)(hS:S w.drew)
  (h:S w.drew→HeadG P l.toArray Q S n n (Array.replicate l.toArray.size false) a w.drew):(Code.region id l.toArray true).wp P Q a w:=by
 have hn:n<l.toArray.size:=by simp only [headB,Bool.and_eq_true,decide_eq_true_eq] at hB;exact hB.1.1.2
 have inv0:HeadInv .any l.toArray n (Array.replicate l.toArray.size false) :=
  ⟨by simp,fun j oj _ hl=>(by rw [getD_replicate_false] at hl;cases hl),fun t _ ht=>getD_in (by simpa using ht) (getD_replicate_false _ _)⟩
 refine wp_region_any hm ?_
 have:=any_of_head (Q:=Q) (g:=l.toArray.size-n) (fun listed a' w' hL=>by
  have:=wpAny_of_seq (md:=.any) (ops:=l.toArray) (Q':=Q) (l.drop n) n listed a' w' (fun j=>by simp [List.getElem?_drop]) (by simpa using hL.1) (by simpa using hL.2)
  simpa using this) _ _ _ _ ((h hS).inv inv0)
 rw [show n+(l.toArray.size-n)=l.toArray.size by omega] at this
 exact this
end
end Go.Proofs.YtjacjafmimgfcaaGreat
namespace Go.Proofs.YtjacjafmimgfcaaGreat
open Go.RowKit
attribute [local go_sem ↓] Go.wp_at_zero Go.wp_at_succ
theorem infoEntry:(Tryz.prog.info? 68).map (fun i=>(i.zero,i.size,i.bytes))=some (some (.agg #[.int .i64 0,.int .i64 0,.int .i64 0,.slice none 0 0,.slice none 0 0,.int .i64 0]),6,80):=by kernel_rfl
set_option maxHeartbeats 4000000 in
set_option maxRecDepth 100000 in
theorem end_calls (m:Mc)(s:Sys)(vt:Value)(w:World)(k:Nat)(whn:Int)(h:Mach m s vt w)(hk:k<s.tasks.length)(hlr:(s.t k).reads.length≤1000000)(hlp:(s.t k).puts.length≤1000000)(hlg:s.log.length≤1000000000)(hpc:0≤(s.t k).pc∧(s.t k).pc≤1000000) :
  Calls Tryz.prog 170 #[.pointer (some ⟨m.g,0,none⟩),.int .i64 k,.int .i64 whn] w (Steps m (endS s k whn) vt):=by
 obtain⟨R,vc,vl,ts,es,H⟩:=h
 obtain⟨gt,cap,Ar,cr,Ao,co,Ad,cd,Au,cu,rfl,hx,hr,ho,hd,hu⟩:=H.at_ hk
 obtain⟨hne,hlt,hgl,_,g3,g4,g5,hat,hfz,hfg⟩:=H.see hx
 have hmax:=H.max
 have c0:=hat.c0;have c1:=hat.c1;have c2:=hat.c2;have c3:=hat.c3;have c4:=hat.c4;have c5:=hat.c5;have c6:=hat.c6;have c7:=hat.c7;have c8:=hat.c8;have c9:=hat.c9;have c10:=hat.c10;have c11:=hat.c11;have c12:=hat.c12
 have hb1:Below w.heap.size w (w.alloc (.cells #[.int .i64 (s.t k).body,.int .i64 (s.t k).pc,.int .i64 (s.t k).up,.slice Ar (s.t k).regs.length cr,.int .i64 (s.t k).way,.int .i64 (s.t k).stage,.int .i64 (s.t k).pos,.int .i64 (s.t k).since,.slice Ao (s.t k).old.length co,.slice Ad (s.t k).reads.length cd,.slice Au (s.t k).puts.length cu,.int .i64 (s.t k).whn,.int .i64 (s.t k).frm] 118)).drew:=(alB w _).drew
 obtain⟨Al,cl,evl,_⟩:=Own.slice H.sys.l
 have hln:=H.sys.m
 rw [hln] at evl
 subst evl
 have x1:(k:Int)<s.tasks.length:=by omega
 have x3:(0:Int)≤k:=by omega
 have HH:=Lib.hid (And.intro H (And.intro hx hln))
 have hp1:=hpc.1
 have hp2:=hpc.2
 clear H hx hat hln ho hr hpc
 go_enter Tryz.func170,Tryz.ntmps170
 go_wp2
 obtain⟨W,HW⟩:∃ W,W=w.alloc (.cells #[.int .i64 (s.t k).body,.int .i64 (s.t k).pc,.int .i64 (s.t k).up,.slice Ar (s.t k).regs.length cr,.int .i64 (s.t k).way,.int .i64 (s.t k).stage,.int .i64 (s.t k).pos,.int .i64 (s.t k).since,.slice Ao (s.t k).old.length co,.slice Ad (s.t k).reads.length cd,.slice Au (s.t k).puts.length cu,.int .i64 (s.t k).whn,.int .i64 (s.t k).frm] 118):=⟨_,rfl⟩
 have qB:W.heap[w.heap.size]?=some (.cells #[.int .i64 (s.t k).body,.int .i64 (s.t k).pc,.int .i64 (s.t k).up,.slice Ar (s.t k).regs.length cr,.int .i64 (s.t k).way,.int .i64 (s.t k).stage,.int .i64 (s.t k).pos,.int .i64 (s.t k).since,.slice Ao (s.t k).old.length co,.slice Ad (s.t k).reads.length cd,.slice Au (s.t k).puts.length cu,.int .i64 (s.t k).whn,.int .i64 (s.t k).frm] 118 (0,0)):=by rw [HW];exact heap_alloc_new w _
 have hbW:Below w.heap.size w W:=by rw [HW];exact alB w _
 have hzW:W.heap.size=w.heap.size+1:=by rw [HW];simp
 rw [← HW] at hb1 ⊢
 clear HW c0 c1 c2 c3 c4 c5 c6 c7 c8 c9 c10 c11 c12
 have g5W:=(hbW.cell (p:=⟨m.g,5,none⟩) hgl).trans g5
 have fgW:=(hbW.frozen (p:=⟨m.g,5,none⟩) hgl).trans (hfg 5)
 have hgW:m.g<W.heap.size:=by omega
 obtain⟨e0,e1,e2,e3,e4,e5,e6,e7,e8,e9,e10,e11,e12⟩:=block13 qB
 have QB:=Lib.hid qB
 have HZ:=Lib.hid hzW
 have hlB:w.heap.size<W.heap.size:=by omega
 have HV:Hid (∀ k',(Value.slice Al s.log.length cl).ownBlock=some k'→k'<w.heap.size∧k'≠m.g):=Lib.hid fun k' e=>by
  have h1:=HH.out.1.sys.Rl k' e
  exact⟨HH.out.1.sys.lt k' (by rw [h1];exact Role.noConfusion),fun e2=>by rw [e2,HH.out.1.run] at h1;cases h1⟩
 clear qB e0 e2 e3 e4 e5 e6 e7 e8 e11 hzW
 refine wp_region_noPanic ?_
 refine wp_region_head 21 (fun w'=>w'.cell? ⟨m.g,5,none⟩=some (.slice Al s.log.length cl)∧w'.cell? ⟨w.heap.size,1,none⟩=some (.int .i64 (s.t k).pc)∧w'.cell? ⟨w.heap.size,9,none⟩=some (.slice Ad (s.t k).reads.length cd)∧w'.cell? ⟨w.heap.size,10,none⟩=some (.slice Au (s.t k).puts.length cu)∧w'.cell? ⟨w.heap.size,12,none⟩=some (.int .i64 (s.t k).frm)) (by kernel_rfl) (by kernel_rfl) (by (try dsimp only)<;>(first | (go_keep;done) | (go_split_ands;first | exact⟨q1,q3,q4,q5,q6⟩))) (fun hHeld=>?_)
 refine head_take (i:=0) (v:=_) (by kernel_rfl) rfl (by kernel_rfl) (by kernel_rfl) (by kernel_rfl) (fun _ _ _ h=>h) (Or.inl ⟨by rfl,by (intro w hSw;(try dsimp only at hSw);go_simp<;>with_reducible rfl)⟩) (by assumption) ?_
 (try simp only [q1,q2,q3,Act.put,q4,q5,q6])
 refine head_take (i:=1) (v:=_) (by kernel_rfl) rfl (by kernel_rfl) (by kernel_rfl) (by kernel_rfl) (fun _ _ _ h=>h) (Or.inl ⟨by rfl,by (intro w hSw;(try dsimp only at hSw);go_simp<;>with_reducible rfl)⟩) (by assumption) ?_
 (try simp only [q1,q2,q3,Act.put,q4,q5,q6])
 refine head_take (i:=2) (v:=_) (by kernel_rfl) rfl (by kernel_rfl) (by kernel_rfl) (by kernel_rfl) (fun _ _ _ h=>h) (Or.inl ⟨by rfl,by (intro w hSw;(try dsimp only at hSw);go_simp<;>with_reducible rfl)⟩) (by assumption) ?_
 (try simp only [q1,q2,q3,Act.put,q4,q5,q6])
 refine head_take (i:=3) (v:=_) (by kernel_rfl) rfl (by kernel_rfl) (by kernel_rfl) (by kernel_rfl) (fun _ _ _ h=>h) (Or.inl ⟨by rfl,by (intro w hSw;(try dsimp only at hSw);go_simp<;>with_reducible rfl)⟩) (by assumption) ?_
 (try simp only [q1,q2,q3,Act.put,q4,q5,q6])
 refine head_take (i:=4) (v:=_) (by kernel_rfl) rfl (by kernel_rfl) (by kernel_rfl) (by kernel_rfl) (fun _ _ _ h=>h) (Or.inl ⟨by rfl,by (intro w hSw;(try dsimp only at hSw);go_simp<;>with_reducible rfl)⟩) (by assumption) ?_
 (try simp only [q1,q2,q3,Act.put,q4,q5,q6])
 refine head_take (i:=5) (v:=_) (by kernel_rfl) rfl (by kernel_rfl) (by kernel_rfl) (by kernel_rfl) (fun _ _ _ h=>h) (Or.inl ⟨by rfl,by (intro w hSw;(try dsimp only at hSw);go_simp<;>with_reducible rfl)⟩) (by assumption) ?_
 (try simp only [q1,q2,q3,Act.put,q4,q5,q6])
 refine head_take (i:=6) (v:=_) (by kernel_rfl) rfl (by kernel_rfl) (by kernel_rfl) (by kernel_rfl) (fun _ _ _ h=>h) (Or.inl ⟨by rfl,by (intro w hSw;(try dsimp only at hSw);go_simp<;>with_reducible rfl)⟩) (by assumption) ?_
 (try simp only [q1,q2,q3,Act.put,q4,q5,q6])
 refine head_take (i:=7) (v:=_) (by kernel_rfl) rfl (by kernel_rfl) (by kernel_rfl) (by kernel_rfl) (fun _ _ _ h=>h) (Or.inl ⟨by rfl,by (intro w hSw;(try dsimp only at hSw);go_simp<;>with_reducible rfl)⟩) (by assumption) ?_
 (try simp only [q1,q2,q3,Act.put,q4,q5,q6])
 refine head_take (i:=8) (v:=_) (by kernel_rfl) rfl (by kernel_rfl) (by kernel_rfl) (by kernel_rfl) (fun _ _ _ h=>h) (Or.inl ⟨by rfl,by (intro w hSw;(try dsimp only at hSw);go_simp<;>with_reducible rfl)⟩) (by assumption) ?_
 (try simp only [q1,q2,q3,Act.put,q4,q5,q6])
 refine head_take (i:=9) (v:=_) (by kernel_rfl) rfl (by kernel_rfl) (by kernel_rfl) (by kernel_rfl) (fun _ _ _ h=>h) (Or.inl ⟨by rfl,by (intro w hSw;(try dsimp only at hSw);go_simp<;>with_reducible rfl)⟩) (by assumption) ?_
 (try simp only [q1,q2,q3,Act.put,q4,q5,q6])
 refine head_take (i:=10) (v:=_) (by kernel_rfl) rfl (by kernel_rfl) (by kernel_rfl) (by kernel_rfl) (fun _ _ _ h=>h) (Or.inl ⟨by rfl,by (intro w hSw;(try dsimp only at hSw);go_simp<;>with_reducible rfl)⟩) (by assumption) ?_
 (try simp only [q1,q2,q3,Act.put,q4,q5,q6])
 refine head_take (i:=11) (v:=_) (by kernel_rfl) rfl (by kernel_rfl) (by kernel_rfl) (by kernel_rfl) (fun _ _ _ h=>h) (Or.inl ⟨by rfl,by (intro w hSw;(try dsimp only at hSw);go_simp<;>with_reducible rfl)⟩) (by assumption) ?_
 (try simp only [q1,q2,q3,Act.put,q4,q5,q6])
 refine head_take (i:=13) (v:=_) (by kernel_rfl) rfl (by kernel_rfl) (by kernel_rfl) (by kernel_rfl) (fun _ _ _ h=>h) (Or.inl ⟨by rfl,by (intro w hSw;(try dsimp only at hSw);go_simp<;>with_reducible rfl)⟩) (by assumption) ?_
 (try simp only [q1,q2,q3,Act.put,q4,q5,q6])
 refine head_take (i:=14) (v:=_) (by kernel_rfl) rfl (by kernel_rfl) (by kernel_rfl) (by kernel_rfl) (fun _ _ _ h=>h) (Or.inl ⟨by rfl,by (intro w hSw;(try dsimp only at hSw);go_simp<;>with_reducible rfl)⟩) (by assumption) ?_
 (try simp only [q1,q2,q3,Act.put,q4,q5,q6])
 refine head_take (i:=16) (v:=_) (by kernel_rfl) rfl (by kernel_rfl) (by kernel_rfl) (by kernel_rfl) (fun _ _ _ h=>h) (Or.inl ⟨by rfl,by (intro w hSw;(try dsimp only at hSw);go_simp<;>with_reducible rfl)⟩) (by assumption) ?_
 (try simp only [q1,q2,q3,Act.put,q4,q5,q6])
 refine head_take (i:=17) (v:=_) (by kernel_rfl) rfl (by kernel_rfl) (by kernel_rfl) (by kernel_rfl) (fun _ _ _ h=>h) (Or.inl ⟨by rfl,by (intro w hSw;(try dsimp only at hSw);go_simp<;>with_reducible rfl)⟩) (by assumption) ?_
 (try simp only [q1,q2,q3,Act.put,q4,q5,q6])
 refine head_next (i:=12) rfl (by kernel_rfl) (by kernel_rfl) (fun Kq hKq=>?_)
 (try simp only [q1,q2,q3])
 refine step_hold (a:=⟨_,_⟩) ?_
 go_simp
 (refine(l11Puts_calls (s.t k).reads Ad cd _ _ (hd.belowAll hb1) hlr).mono ?_;rintro e w2 ⟨v2,rfl,ho2,hc2⟩;obtain⟨A2,c2,rfl,_⟩:=Own.slice ho2;have hb2:=below_then hb1 (by simp;omega) hc2;have hs2:W.heap.size≤w2.heap.size:=hc2.size;have q1:=(hc2.cell (p:=⟨m.g,5,none⟩) hgW).trans g5W;have q3:=(hc2.cell (p:=⟨w.heap.size,1,none⟩) hlB).trans e1;have q4:=(hc2.cell (p:=⟨w.heap.size,9,none⟩) hlB).trans e9;have q5:=(hc2.cell (p:=⟨w.heap.size,10,none⟩) hlB).trans e10;have q6:=(hc2.cell (p:=⟨w.heap.size,12,none⟩) hlB).trans e12)
 refine hKq.out _ _ (by (try dsimp only)<;>(first | (go_keep;done) | (go_split_ands;first | exact⟨q1,q3,q4,q5,q6⟩))) (fun hHeld=>?_)
 clear hKq Kq
 (try simp only [q1,q2,q3,Act.put,q4,q5,q6])
 refine head_next (i:=15) rfl (by kernel_rfl) (by kernel_rfl) (fun Kq hKq=>?_)
 (try simp only [q1,q2,q3])
 refine step_hold (a:=⟨_,_⟩) ?_
 go_simp
 (refine(l11Puts_calls (s.t k).puts Au cu _ _ (hu.belowAll hb2) hlp).mono ?_;rintro e w3 ⟨v3,rfl,ho3,hc3⟩;obtain⟨A3,c3,rfl,_⟩:=Own.slice ho3;have hb3:=below_then hb2 (by omega) hc3;have hs3:w2.heap.size≤w3.heap.size:=hc3.size;have q1:=(hc3.cell (p:=⟨m.g,5,none⟩) (by show m.g<w2.heap.size;omega)).trans q1;have q3:=(hc3.cell (p:=⟨w.heap.size,1,none⟩) (by show w.heap.size<w2.heap.size;omega)).trans q3;have q4:=(hc3.cell (p:=⟨w.heap.size,9,none⟩) (by show w.heap.size<w2.heap.size;omega)).trans q4;have q5:=(hc3.cell (p:=⟨w.heap.size,10,none⟩) (by show w.heap.size<w2.heap.size;omega)).trans q5;have q6:=(hc3.cell (p:=⟨w.heap.size,12,none⟩) (by show w.heap.size<w2.heap.size;omega)).trans q6)
 refine hKq.out _ _ (by (try dsimp only)<;>(first | (go_keep;done) | (go_split_ands;first | exact⟨q1,q3,q4,q5,q6⟩))) (fun hHeld=>?_)
 clear hKq Kq
 (try simp only [q1,q2,q3,Act.put,q4,q5,q6])
 refine head_take (i:=18) (v:=_) (by kernel_rfl) rfl (by kernel_rfl) (by kernel_rfl) (by kernel_rfl) (fun _ _ _ h=>h) (Or.inl ⟨by rfl,by (intro w hSw;(try dsimp only at hSw);go_simp<;>with_reducible rfl)⟩) (by assumption) ?_
 (try simp only [q1,q2,q3,Act.put,q4,q5,q6])
 refine head_next (i:=19) rfl (by kernel_rfl) (by kernel_rfl) (fun Kq hKq=>?_)
 (try simp only [q1,q2,q3])
 refine step_hold (a:=⟨_,_⟩) ?_
 go_simp
 refine hKq.out _ _ (by (try dsimp only)<;>(first | (go_keep;done) | (go_split_ands;first | exact⟨q1,q3,q4,q5,q6⟩))) (fun hHeld=>?_)
 clear hKq Kq
 (try simp only [q1,q2,q3,Act.put,q4,q5,q6])
 refine head_next (i:=20) rfl (by kernel_rfl) (by kernel_rfl) (fun Kq hKq=>?_)
 (try simp only [q1,q2,q3])
 refine step_hold (a:=⟨_,_⟩) ?_
 (refine step_push (d:=kEV) (wr:=w3) (x:=⟨endEntry (s.t k) k whn,.slice A2 (s.t k).reads.length c2,.slice A3 (s.t k).puts.length c3⟩) plain_ev (by rfl) (Below.refl _ _) ((HH.out.1.sys.l).belowAll hb3) (by have:=HH.out.1.bl;omega) (fun _ _=>⟨rfl,rfl,rfl⟩) w3.heap.size rfl rfl _ _ _ (by rfl) Tryz.underlying43 _ 80 infoEntry rfl (by decide) (by decide) (by rfl) (by rfl) (by rw [HH.out.2.2];omega) ?_;intro A4 c4 w4 ho4 hk4 hn4;have q1:=(hk4.cell (p:=⟨m.g,5,none⟩) (by show m.g<w3.heap.size;omega) (fun e=>(HV.out _ e).2 rfl)).trans q1;have q3:=(hk4.cell (p:=⟨w.heap.size,1,none⟩) (by show w.heap.size<w3.heap.size;omega) (fun e=>by have:=(HV.out _ e).1;simp at this)).trans q3;have q4:=(hk4.cell (p:=⟨w.heap.size,9,none⟩) (by show w.heap.size<w3.heap.size;omega) (fun e=>by have:=(HV.out _ e).1;simp at this)).trans q4;have q5:=(hk4.cell (p:=⟨w.heap.size,10,none⟩) (by show w.heap.size<w3.heap.size;omega) (fun e=>by have:=(HV.out _ e).1;simp at this)).trans q5;have q6:=(hk4.cell (p:=⟨w.heap.size,12,none⟩) (by show w.heap.size<w3.heap.size;omega) (fun e=>by have:=(HV.out _ e).1;simp at this)).trans q6;have q2:=(hk4.frozen (p:=⟨m.g,5,none⟩) (by show m.g<w3.heap.size;omega) (fun e=>(HV.out _ e).2 rfl)).trans ((hc3.frozen (p:=⟨m.g,5,none⟩) (by show m.g<w2.heap.size;omega)).trans ((hc2.frozen (p:=⟨m.g,5,none⟩) hgW).trans fgW)))
 refine hKq.out _ _ (by (try dsimp only)<;>(first | (go_keep;done) | (go_split_ands;first | exact⟨q1,q3,q4,q5,q6⟩))) (fun hHeld=>?_)
 clear hKq Kq
 (try simp only [q1,q2,q3,Act.put,q4,q5,q6])
 refine head_done (by kernel_rfl) ?_
 simp only [List.toList_toArray,List.drop_succ_cons,List.drop_zero]
 go_wp2_with fail
 refine NoPanic.normal ?_
 have hB3:∀ {k':Nat} {v:Value} {w0:World} {w':World} {e b:Nat} {xs:List Put},OwnF kPut e w' w0.heap.size v xs→w.heap.size≤w0.heap.size→v.ownBlock=some k'→R k'=.no∧m.w0.heap.size≤k':=by
  intro k' v w0 w' e b xs h1 h2 h3
  have:=h1.blk k' h3
  exact HH.out.1.fresh (by omega)
 have hbl:=HH.out.1.bl
 have hz:=HZ.out
 have hw2:w.heap.size≤W.drew.heap.size:=by simp;omega
 have hw3:w.heap.size≤w2.heap.size:=by omega
 have hd4:OwnF kPut 127 w4 m.base (.slice A2 (s.t k).reads.length c2) (s.t k).reads:=((ho2.belowAll hc3).keep hk4 (fun k' e e2=>by have h1:=(HV.out _ e2).1;have h2:=(OwnF.blk ho2 k' e).1;simp at h2;omega)).lower (by simp;omega)
 have hu4:OwnF kPut 127 w4 m.base (.slice A3 (s.t k).puts.length c3) (s.t k).puts:=(ho3.keep hk4 (fun k' e e2=>by have h1:=(HV.out _ e2).1;have h2:=(OwnF.blk ho3 k' e).1;omega)).lower (by omega)
 have hdn:∀ k',(Value.slice A4 (es.length+1) c4).ownBlock=some k'→k'<w.heap.size∨w3.heap.size≤k':=fun k' e=>(hn4 k' e).imp (fun e2=>(HV.out _ e2).1) id
 obtain⟨R1,H1⟩:=(HH.out.1.below hb3).log (e:=endEntry (s.t k) k whn) hk4 (ho4) hn4 hd4 hu4 (fun k' e=>hB3 (b:=0) ho2 hw2 e) (fun k' e=>hB3 (b:=0) ho3 hw3 e)
  (fun k' e e2=>by have h1:=(OwnF.blk ho2 k' e).2;have h2:=(OwnF.blk ho3 k' e2).1;omega)
  (fun k' e e2=>by have h1:=OwnF.blk ho2 k' e;have h2:=hdn k' e2;simp at h1;omega)
  (fun k' e e2=>by have h1:=OwnF.blk ho3 k' e;have h2:=hdn k' e2;omega)
 obtain⟨W5,HW5⟩:∃ W5,W5=w4.setCell ⟨m.g,5,none⟩ (.slice A4 (es.length+1) c4):=⟨_,rfl⟩
 rw [← HW5] at H1 ⊢
 have b1:W5.cell? ⟨w.heap.size,1,none⟩=some (.int .i64 (s.t k).pc):=by rw [HW5];exact cell_far q3 (by omega)
 clear HW5 hHeld hB3 hd4 hu4 ho4 hk4 hn4 hdn
 obtain⟨hne5,hlt5,hgl5,_,p3,_,_,hat5,hfz5,_⟩:=H1.see HH.out.2.1
 have d1:=hat5.c1
 have d7:=hat5.c7
 have d9:=hat5.c9
 have d10:=hat5.c10
 have d11:=hat5.c11
 have d12:=hat5.c12
 have hx1:=ts_set (y:=⟨{ s.t k with pc:=(s.t k).pc+1 },.slice Ar (s.t k).regs.length cr,.slice Ao (s.t k).old.length co,.slice Ad (s.t k).reads.length cd,.slice Au (s.t k).puts.length cu⟩) HH.out.2.1
 have H2:=(H1.int HH.out.2.1 1 (by omega) ((s.t k).pc+1) { s.t k with pc:=(s.t k).pc+1 } rfl rfl rfl rfl rfl).below ((Below.refl _ _).drew)
 obtain⟨R3,H3⟩:=H2.rowD hx1 (Keep.of_belowAll _ (alB _ (.cells #[] 127))) (ownF_empty kPut plain_put 127 _ m.base H2.bl) (fun k e=>.inr (H2.fresh (by simp [Value.ownBlock] at e;simp;omega)))
 obtain⟨R4,H4⟩:=H3.rowU (ts_set hx1) (Keep.of_belowAll _ (alB _ (.cells #[] 127))) (ownF_empty kPut plain_put 127 _ m.base H3.bl) (fun k e=>.inr (H3.fresh (by simp [Value.ownBlock] at e;simp;omega)))
 have hx4:=ts_set (y:=⟨{ s.t k with pc:=(s.t k).pc+1,reads:=[],puts:=[] },.slice Ar (s.t k).regs.length cr,.slice Ao (s.t k).old.length co,.slice (some ⟨W5.heap.size,0,none⟩) 0 0,.slice (some ⟨W5.heap.size+1,0,none⟩) 0 0⟩) HH.out.2.1
 simp only [List.set_set,World.size_setCell,World.size_alloc,World.size_drew] at H4
 have H5:=H4.int hx4 7 (by omega) 0 { s.t k with pc:=(s.t k).pc+1,reads:=[],puts:=[],since:=0 } rfl rfl rfl rfl rfl
 have H6:=H5.int (ts_set hx4) 11 (by omega) 0 { s.t k with pc:=(s.t k).pc+1,reads:=[],puts:=[],since:=0,whn:=0 } rfl rfl rfl rfl rfl
 have H7:=H6.int (ts_set (ts_set hx4)) 12 (by omega) 0 { s.t k with pc:=(s.t k).pc+1,reads:=[],puts:=[],since:=0,whn:=0,frm:=0 } rfl rfl rfl rfl rfl
 have z1:gt<W5.heap.size+1:=by omega
 simp only [setT_setT,World.alloc_drew,World.setCell_drew,World.size_setCell,World.size_alloc,World.size_drew,set_al,hlt5,z1] at H7
 have HM:=Lib.hid H7.mach
 have hw1:IntKind.i64.wrap ((s.t k).pc+1)=(s.t k).pc+1:=IntWalk.i64_in _ (by omega)
 clear H1 H2 H3 H4 H5 H6 H7 hat5 z1 g3 g4 g5 q1 q2 q3 q4 q5 q6 e1 e9 e10 e12 g5W fgW hx1 hx4 ho2 ho3 hHeld
 go_wp2_with fail
 go_still_tail 11,(by kernel_rfl)
 go_wp2_with (go_at_call 166;go_must (refine(stage_calls m _ _ _ k 0 HM.out (by rw [setT_n];exact hk)).mono ?_;rintro e w9 ⟨rfl,H9⟩))
 go_end0
 refine⟨rfl,?_⟩
 rw [setT_setT,setT_t (by exact hk)] at H9
 exact H9
end Go.Proofs.YtjacjafmimgfcaaGreat
namespace Go.Proofs.YtjacjafmimgfcaaGreat
open Go.RowKit
section
variable {P:Program}{md:Region.Mode}{ops:Array Oper}{Q:Exit→Go.Act→World→Prop}{S:World→Prop}
theorem anyH_part {g:Nat}(J:Nat→Array Bool→Go.Act→World→Prop)(hS:∀ f l a w,J f l a w→S w)(hend:∀ l a w,J 0 l a w→wpAnyH P md ops Q S g l a w)
  (hstep:∀ f l a w,J (f+1) l a w→Region.ready md ops l≠[]∧∀ i ∈ Region.ready md ops l,wpOp P ops Q i (fun a' w'=>J f (l.setIfInBounds i true) a' w') a w) :
  ∀ f l a w,J f l a w→wpAnyH P md ops Q S (f+g) l a w:=by
 intro f
 induction f with
 | zero=>intro l a w h;rw [Nat.zero_add];exact hend l a w h
 | succ f ih =>
  intro l a w h
  rw [show f+1+g=(f+g)+1 by omega]
  obtain⟨h1,h2⟩:=hstep f l a w h
  exact⟨fun e=>absurd e h1,fun i hi=>wpOp_mono (fun a' w' h'=>⟨hS _ _ _ _ h',ih _ a' w' h'⟩) (h2 i hi)⟩
theorem ready_at {l:Array Bool}{i:Nat}(h:i ∈ Region.ready md ops l):l.getD i true=false∧∀ o,ops[i]?=some o→∀ e ∈ o.after,Region.binds md e=true→l.getD e.on false=true:=by
 obtain⟨h1,o,ho,h2⟩:=mem_ready.1 h
 refine⟨h1,fun o' ho' e he hb=>?_⟩
 rw [ho] at ho'
 injection ho' with ho'
 subst ho'
 exact h2 e he hb
end
def Made (w0 w:World) (c:Bool) (k:Nat) (o:Obj):Prop:=c=true→w0.heap.size≤k∧w.heap[k]?=some o
def Apart2 (c:Bool) (k:Nat) (c':Bool) (k':Nat):Prop:=c=true→c'=true→k≠k'
theorem Made.alloc {w0 w:World}{c:Bool}{k:Nat}{o:Obj}(h:Made w0 w c k o)(o':Obj):Made w0 (w.alloc o') c k o:=fun e=>by
 obtain⟨h1,h2⟩:=h e
 have hl:k<w.heap.size:=(Array.getElem?_eq_some_iff.1 h2).1
 exact⟨h1,((alB w o').block k hl).trans h2⟩
theorem Made.new {w0 w:World}(hb:Below w0.heap.size w0 w)(o:Obj):Made w0 (w.alloc o) true w.heap.size o:=fun _=>⟨hb.size,heap_alloc_new _ _⟩
theorem Made.none {w0 w:World}{k:Nat}{o:Obj}:Made w0 w false k o:=fun e=>by cases e
theorem Apart2.new {w0 w:World}{c c':Bool}{k:Nat}{o:Obj}(h:Made w0 w c k o):Apart2 c' w.heap.size c k:=fun _ e e2=>by
 have hl:k<w.heap.size:=(Array.getElem?_eq_some_iff.1 (h e).2).1
 omega
theorem Apart2.symm {c c':Bool}{k k':Nat}(h:Apart2 c k c' k'):Apart2 c' k' c k:=fun e1 e2 e=>h e2 e1 e.symm
theorem Apart2.none {c:Bool}{k k':Nat}:Apart2 false k c k':=fun e=>by cases e
end Go.Proofs.YtjacjafmimgfcaaGreat
namespace Go.Proofs.YtjacjafmimgfcaaGreat
section
variable {P:Program}{md:Region.Mode}{ops:Array Oper}{Q:Exit→Go.Act→World→Prop}{S:World→Prop}{n:Nat}{L:Array Bool→Go.Act→World→Prop}
def treeB (md:Region.Mode) (ops:Array Oper) (n:Nat):Bool :=
 (List.range ops.size).all fun t=>decide (t≤n) || (List.range t).any fun j=>decide (n≤j) && Region.waitsFor md ops t j
theorem tail_waits2 {listed:Array Bool}(hs:Region.sinkB md ops n=true)(hc:treeB md ops n=true)(hn:n<ops.size)(inv:HeadInv md ops n listed) :
  ∀ (d i:Nat),n-i=d→i<n→listed.getD i true=false→∀ t,n≤t→t ∉ Region.ready md ops listed:=by
 intro _ i _ hi hun t ht hr
 obtain⟨_,ot,hot,hall⟩:=mem_ready.1 hr
 have htl:t<ops.size:=(Array.getElem?_eq_some_iff.1 hot).1
 rcases Nat.lt_or_ge n t with hlt | hge
 ·have h1:=List.all_eq_true.1 hc t (List.mem_range.2 htl)
  simp only [Bool.or_eq_true,decide_eq_true_eq] at h1
  rcases h1 with h1 | h1
  ·omega
  ·obtain⟨j,hj,h2⟩:=List.any_eq_true.1 h1
   simp only [Bool.and_eq_true,decide_eq_true_eq] at h2
   obtain⟨o,ho,e,he,hb,hon⟩:=Region.waitsFor_spec h2.2
   have hjl:=List.mem_range.1 hj
   rw [hot] at ho
   injection ho with ho
   subst ho
   have h3:=hall e he hb
   rw [hon,getD_both (inv.tail j h2.1 (by omega))] at h3
   cases h3
 ·have hnt:t=n:=by omega
  subst hnt
  have all:∀ m q,t-q=m→q<t→listed.getD q false=true:=by
   intro m
   induction m using Nat.strongRecOn with
   | _ m ih =>
    intro q hm hq
    obtain⟨j,hj,h2⟩:=List.any_eq_true.1 (List.all_eq_true.1 hs q (List.mem_range.2 hq))
    simp only [Bool.and_eq_true,decide_eq_true_eq] at h2
    have hjn:=List.mem_range.1 hj
    obtain⟨oj,hoj,e,he,hb,hon⟩:=Region.waitsFor_spec h2.2
    rcases Nat.lt_or_ge j t with h | h
    ·have:=inv.closed j oj hoj (ih (t-j) (by omega) j rfl h) e he hb
     rw [hon] at this
     exact this
    ·have hjt:j=t:=by omega
     subst hjt
     rw [hot] at hoj
     injection hoj with hoj
     subst hoj
     have:=hall e he hb
     rw [hon] at this
     exact this
  have h3:=all _ i rfl hi
  rw [getD_both hun] at h3
  cases h3
theorem head_first2 {i:Nat}{oi:Oper}{v:Value}(hi:ops[i]?=some oi)(hsel:∀ (j:Nat)(o:Oper) cs b,ops[j]?=some o→o.op≠.select cs b)(hQ:∀ c a w,Q (.panic c) (a.put oi.dst v) w→Q (.panic c) a w)
  (hs:Region.sinkB md ops n=true) (hc:treeB md ops n=true) (hn:n<ops.size) (hin:i<n) (hdone:∀ listed a w,L listed a w→∀ j ∈ Region.ready md ops listed,n≤j) :
  ∀ (f:Nat) (listed:Array Bool) (a:Go.Act) (w:World),HeadInv md ops n listed →
   (∀ j oj,ops[j]?=some oj→j≠i→listed.getD j true=false→(∀ e ∈ oj.after,Region.binds md e=true→e.on≠i)→oi.apart ops oj=true) →
   i ∈ Region.ready md ops listed→YieldsIf P ops S oi v a→S w →
   HeadH P md ops Q S n L f (listed.setIfInBounds i true) (a.put oi.dst v) w→HeadH P md ops Q S n L (f+1) listed a w:=by
 intro f
 induction f with
 | zero =>
  intro listed a w inv _ hr hy hS H
  have hun:=(mem_ready.1 hr).1
  refine⟨fun h=>(by rw [h] at hr;cases hr),fun j hj=>?_⟩
  have hjn:j<n:=(Nat.lt_or_ge j n).elim id fun h=>absurd hj (tail_waits2 hs hc hn inv _ i rfl hin hun j h)
  refine⟨hjn,?_⟩
  by_cases hji:j=i
  ·subst hji;exact hy.wpOp hi hS ⟨hS,H⟩
  ·have:=hdone _ _ _ H j (ready_mono hj hji)
   omega
 | succ f ih =>
  intro listed a w inv hfree hr hy hS H
  have hun:=(mem_ready.1 hr).1
  refine⟨fun h=>(by rw [h] at hr;cases hr),fun j hj=>?_⟩
  have hjn:j<n:=(Nat.lt_or_ge j n).elim id fun h=>absurd hj (tail_waits2 hs hc hn inv _ i rfl hin hun j h)
  refine⟨hjn,?_⟩
  by_cases hji:j=i
  ·subst hji;exact hy.wpOp hi hS ⟨hS,H⟩
  ·have h1:=(H.2 j (ready_mono hj hji)).2
   obtain⟨hjun,oj,hoj,hall⟩:=mem_ready.1 hj
   have hnot:∀ e ∈ oj.after,Region.binds md e=true→e.on≠i:=fun e he hb heq=>by
    have h1:=hall e he hb
    rw [heq,getD_both hun] at h1
    cases h1
   have h2:=wpOp_putIf hoj (hfree j oj hoj hji hjun hnot) (fun cs b=>hsel i oi cs b hi) (fun cs b=>hsel j oj cs b hoj) hQ hy h1
   refine wpOp_mono (fun a' w' h3=>⟨h3.2.1,ih (listed.setIfInBounds j true) a' w' (inv.set hj hjn) (fun k ok hk hki hk2 hno=>?_) (ready_mono hr (Ne.symm hji)) h3.1 h3.2.1 ?_⟩) h2
   ·refine hfree k ok hk hki ?_ hno
    by_cases hjk:j=k
    ·subst hjk;exact hjun
    ·rw [getD_set_ne true hjk] at hk2;exact hk2
   ·rw [Array.setIfInBounds_comm _ _ hji]
    exact h3.2.2
structure HeadW (P:Program) (ops:Array Oper) (Q:Exit→Go.Act→World→Prop) (S S':World→Prop) (n f:Nat) (listed:Array Bool) (a:Go.Act) (w:World):Prop where
 inv:HeadInv .any ops n listed→HeadH P .any ops Q S n (fun listed' a' w'=>(Region.ready .any ops listed').all (fun j=>decide (n≤j))=true∧wpAnyH P .any ops Q S' (ops.size-n) listed' a' w') f listed a w
variable {S':World→Prop}
def headC (ops:Array Oper) (n:Nat):Bool:=Region.noSelect ops && decide (n<ops.size) && Region.sinkB .any ops n && treeB .any ops n
theorem heaw_take {i f:Nat}{oi:Oper}{v:Value}{listed:Array Bool}{a:Go.Act}{w:World}(hB:headC ops n=true)(hi:ops[i]?=some oi)(hin:(decide (i<n))=true)(hf:Region.free .any ops listed i=true)(hr:(Region.ready .any ops listed).contains i=true)
  (hQ:∀ c a w,Q (.panic c) (a.put oi.dst v) w→Q (.panic c) a w) (hy:YieldsIf P ops S oi v a) (hS:S w)
  (h:HeadW P ops Q S S' n f (listed.setIfInBounds i true) (a.put oi.dst v) w):HeadW P ops Q S S' n (f+1) listed a w:=by
 simp only [headC,Bool.and_eq_true,decide_eq_true_eq] at hB
 obtain⟨⟨⟨hsel,hn⟩,hs⟩,hc⟩:=hB
 have hin:=of_decide_eq_true hin
 have hr':i ∈ Region.ready .any ops listed:=by simpa using hr
 exact⟨fun inv=>head_first2 hi (Region.noSelect_spec hsel) hQ hs hc hn hin (fun _ _ _ hL j hj=>of_decide_eq_true (List.all_eq_true.1 hL.1 j hj)) f listed a w inv (Region.free_spec hi hf) hr' hy hS (h.inv (inv.set hr' hin))⟩
theorem heaw_next {i f:Nat}{o:Oper}{listed:Array Bool}{a:Go.Act}{w:World}(ho:ops[i]?=some o)(hin:(decide (i<n))=true)(hr:Region.ready .any ops listed=[i])
  (h:∀ K':Go.Act→World→Prop,Shut (∀ a w,S w→(S w→HeadW P ops Q S S' n f (listed.setIfInBounds i true) a w)→K' a w)→if Region.wanted o (yielded ops a.tmps)=true then Oper.wp P o a w K' Q else K' (a.put o.dst undef) w) :
  HeadW P ops Q S S' n (f+1) listed a w:=by
 have hin:=of_decide_eq_true hin
 refine⟨fun inv=>⟨by rw [hr];simp,fun j hj=>?_⟩⟩
 have hr':i ∈ Region.ready .any ops listed:=by rw [hr];simp
 rw [hr] at hj
 have hji:j=i:=by simpa using hj
 subst hji
 refine⟨hin,wpOp_step ho fun K' hK=>h K' fun a w hS hW=>hK a w ⟨hS,(hW hS).inv (inv.set hr' hin)⟩⟩
theorem heaw_done {listed:Array Bool}{a:Go.Act}{w:World}(hr:(Region.ready .any ops listed).all (fun j=>decide (n≤j))=true)(h:wpAnyH P .any ops Q S' (ops.size-n) listed a w):HeadW P ops Q S S' n 0 listed a w:=⟨fun _=>⟨hr,h⟩⟩
theorem wp_region_headw {id:Nat}{a:Go.Act}{w:World}{l:List Oper}(n:Nat)(S S':World→Prop)(hm:P.follows .mixedOrders=true)(hB:headC l.toArray n=true)(hS:S w.drew)
  (h:S w.drew→HeadW P l.toArray Q S S' n n (Array.replicate l.toArray.size false) a w.drew):(Code.region id l.toArray true).wp P Q a w:=by
 have hn:n<l.toArray.size:=by simp only [headC,Bool.and_eq_true,decide_eq_true_eq] at hB;exact hB.1.1.2
 have inv0:HeadInv .any l.toArray n (Array.replicate l.toArray.size false) :=
  ⟨by simp,fun j oj _ hl=>(by rw [getD_replicate_false] at hl;cases hl),fun t _ ht=>getD_in (by simpa using ht) (getD_replicate_false _ _)⟩
 refine wp_region_any hm ?_
 have:=any_of_head (Q:=Q) (g:=l.toArray.size-n) (fun listed a' w' hL=>wpAny_of_held _ _ _ _ hL.2) _ _ _ _ ((h hS).inv inv0)
 rw [show n+(l.toArray.size-n)=l.toArray.size by omega] at this
 exact this
end
end Go.Proofs.YtjacjafmimgfcaaGreat
