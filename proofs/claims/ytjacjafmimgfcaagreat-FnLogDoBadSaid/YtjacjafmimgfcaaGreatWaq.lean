/- A step keeps a system in order; so do turns, and rounds. Plain Lean.; The reference's machine: what was read is looked at again; cells are held, and written.; The reference's machine: a cell is held.; The reference's machine: a cell is written. -/
import Derived.Test.YtjacjafmimgfcaaGreatWaj
import Derived.Test.YtjacjafmimgfcaaGreatWap
set_option maxHeartbeats 2000000
set_option maxRecDepth 100000
set_option linter.unusedVariables false
set_option linter.unusedSimpArgs false
namespace Go.Proofs.YtjacjafmimgfcaaGreat
section
variable {p:Prog}{s s':Sys}{k:Nat}
theorem anyKid_iff {f:Task→Bool}:anyKid s k f=true ↔ ∃ j ∈ kidList s k,f (s.t j)=true:=by
 unfold anyKid
 rw [List.any_eq_true]
 constructor
 ·rintro ⟨t,ht,h⟩
  simp only [Bool.and_eq_true,decide_eq_true_eq] at h
  obtain⟨j,hj,rfl⟩:=List.mem_iff_getElem.1 ht
  exact⟨j,mem_kidList.2 ⟨hj,by rw [sys_t hj];exact h.1⟩,by rw [sys_t hj];exact h.2⟩
 ·rintro ⟨j,hj,h⟩
  obtain⟨h1,h2⟩:=mem_kidList.1 hj
  refine⟨s.tasks[j],List.getElem_mem h1,?_⟩
  simp only [Bool.and_eq_true,decide_eq_true_eq]
  rw [← sys_t h1];exact⟨h2,h⟩
theorem SInv.idle (h:SInv p s)(hk:k<s.tasks.length)(hw:(s.t k).way≠0):(s.t k).stage=0:=by
 rcases Classical.em ((s.t k).stage=0) with e | e
 ·exact e
 ·exact absurd ((h.t k hk).runs e).1 hw
theorem goOn_ok (hI:SInv p s)(hW:WInv p s)(hk:k<s.tasks.length)(hw:(s.t k).way=1)(hd:∀ j ∈ kidList s k,isLive (s.t j)=false) :
  SInv p (s.setT k { s.t k with way:=0,pc:=(s.t k).pc+1 })∧WInv p (s.setT k { s.t k with way:=0,pc:=(s.t k).pc+1 }):=by
 have ht:=hI.t k hk
 have hf:=ht.forks hw
 refine⟨hI.next hk (hI.idle hk (by omega)) hf.1,?_⟩
 have hn:(s.setT k { s.t k with way:=0,pc:=(s.t k).pc+1 }).tasks.length=s.tasks.length:=List.length_set
 have hT:∀ j,(s.setT k { s.t k with way:=0,pc:=(s.t k).pc+1 }).t j=if j=k then { s.t k with way:=0,pc:=(s.t k).pc+1 } else s.t j:=fun j=>t_set hk j
 have hu:∀ j,((s.setT k { s.t k with way:=0,pc:=(s.t k).pc+1 }).t j).up=(s.t j).up:=fun j=>by rw [hT];split<;>first | (rename_i e;rw [e];done) | rfl
 have hkl:=kidList_same hn hu
 refine⟨fun j h0 hj hl=>?_,fun j hj hj1=>?_⟩
 ·rw [hn] at hj
  rw [hu]
  have hls:isLive (s.t j)=true:=by
   rw [hT] at hl
   split at hl
   ·rename_i e;subst e;unfold isLive;rw [hw];rfl
   ·exact hl
  have h1:=hW.live j h0 hj hls
  have hne:(s.t j).up.toNat≠k:=fun e=>by
   have hup:=hI.up j h0 hj
   have:=hd j (mem_kidList.2 ⟨hj,by omega⟩)
   rw [this] at hls;cases hls
  rw [hT,if_neg hne];exact h1
 ·rw [hn] at hj
  have hne:j≠k:=fun e=>by subst e;rw [hT,if_pos rfl] at hj1;simp at hj1
  rw [hT,if_neg hne] at hj1
  rw [hkl,hT,if_neg hne]
  have:=hW.waits j hj hj1
  have e:(kidList s j).filter (fun i=>decide (((s.setT k { s.t k with way:=0,pc:=(s.t k).pc+1 }).t i).way≠4))=(kidList s j).filter fun i=>decide ((s.t i).way≠4):=List.filter_congr fun i _=>by
   rw [hT]
   split
   ·rename_i e;subst e
    rw [decide_eq_true (by dsimp only;omega),decide_eq_true (by omega)]
   ·rfl
  rw [e];exact this
theorem giveUp_ok (hI:SInv p s)(hW:WInv p s)(hk:k<s.tasks.length)(hw:(s.t k).way=1){n:Nat}(hn:s.tasks.length≤n) :
  SInv p (setWay ((kidList s k).foldl (offS n) s) k 3)∧WInv p (setWay ((kidList s k).foldl (offS n) s) k 3):=by
 obtain⟨h1,h2⟩:=offKids_ok hI hk hn
 have hkn:=kid_ne hI hk
 generalize (kidList s k).foldl (offS n) s=s1 at h1 h2
 have hk1:k<s1.tasks.length:=by rw [h1.n];exact hk
 have hsk:s1.t k=s.t k:=h1.out k hkn
 have hst:(s1.t k).stage=0:=by rw [hsk];exact hI.idle hk (by omega)
 refine⟨h1.inv.way hk1 hst 3 (by omega) (by omega) (by omega),?_⟩
 have hlen:(setWay s1 k 3).tasks.length=s.tasks.length:=(List.length_set).trans h1.n
 have hT:=way_t (s:=s1) hk1 3
 have hu:∀ j,((setWay s1 k 3).t j).up=(s.t j).up:=fun j=>by rw [hT,← h1.up];split<;>first | (rename_i e;rw [e];done) | rfl
 have hkl:=kidList_same hlen hu
 have hout:∀ j,j<s.tasks.length→isLive ((setWay s1 k 3).t j)=true→j≠k∧¬ (∃ c ∈ kidList s k,Sub s c j)∧(setWay s1 k 3).t j=s.t j:=by
  intro j hj hl
  have hne:j≠k:=fun e=>by subst e;rw [hT,if_pos rfl] at hl;simp [isLive] at hl
  rw [hT,if_neg hne] at hl ⊢
  have hnu:¬ (∃ c ∈ kidList s k,Sub s c j):=fun x=>by rw [h2 j x] at hl;cases hl
  exact⟨hne,hnu,h1.out j hnu⟩
 refine⟨fun j h0 hj hl=>?_,fun j hj hj1=>?_⟩
 ·rw [hlen] at hj
  obtain⟨hne,hnu,e⟩:=hout j hj hl
  rw [e] at hl ⊢
  have hup:=hI.up j h0 hj
  have hp:=hW.live j h0 hj hl
  have hpn:(s.t j).up.toNat<s.tasks.length:=by omega
  have hne2:(s.t j).up.toNat≠k:=fun e2=>hnu ⟨j,mem_kidList.2 ⟨hj,by omega⟩,.self⟩
  have hnu2:¬ (∃ c ∈ kidList s k,Sub s c (s.t j).up.toNat):=fun ⟨c,hc,h⟩=>hnu ⟨c,hc,.kid h hj (by omega)⟩
  rw [hT,if_neg hne2,h1.out _ hnu2];exact hp
 ·rw [hlen] at hj
  obtain⟨hne,hnu,e⟩:=hout j hj (by unfold isLive;rw [hj1];rfl)
  rw [e] at hj1 ⊢
  rw [hkl]
  have:=hW.waits j hj hj1
  have e2:(kidList s j).filter (fun i=>decide (((setWay s1 k 3).t i).way≠4))=(kidList s j).filter fun i=>decide ((s.t i).way≠4):=List.filter_congr fun i hi=>by
   obtain⟨hi1,hi2⟩:=mem_kidList.1 hi
   rw [hT]
   split
   ·rename_i e;subst e
    rw [decide_eq_true (by dsimp only;omega),decide_eq_true (by omega)]
   ·rename_i hik
    have hnu3:¬ (∃ c ∈ kidList s k,Sub s c i):=by
     rintro ⟨c,hc,h⟩
     cases h with
     | self=>have:=(mem_kidList.1 hc).2;rw [hi2] at this;exact hne (by omega)
     | kid h' hx he =>
      rename_i u
      rw [hi2] at he
      rw [show u=j by omega] at h'
      exact hnu ⟨c,hc,h'⟩
    rw [h1.out i hnu3]
  rw [e2];exact this
theorem awaitS_ok (hI:SInv p s)(hW:WInv p s)(hk:k<s.tasks.length)(hw:(s.t k).way=1)(hr:readyS s k=true):SInv p (awaitS s k)∧WInv p (awaitS s k):=by
 unfold awaitS
 split
 ·exact giveUp_ok hI hW hk hw (Nat.le_refl _)
 ·rename_i hf
  refine goOn_ok hI hW hk hw fun j hj=>?_
  unfold readyS at hr
  rw [if_neg (by omega),if_pos hw] at hr
  simp only [Bool.and_eq_true,Bool.or_eq_true,Bool.not_eq_true'] at hr
  rcases hr.2 with h | h
  ·exact absurd h hf
  ·cases hl:isLive (s.t j) with
   | false=>rfl
   | true =>
    have:anyKid s k isLive=true:=anyKid_iff.2 ⟨j,hj,hl⟩
    rw [h] at this;cases this
/-! ### Tasks are begun -/
def forked (s:Sys) (k:Nat) (kids:List Int):Sys:={ s with tasks:=s.tasks ++ kids.map fun b=>newTask b k }
theorem forked_old (s:Sys)(k:Nat)(kids:List Int)(j:Nat)(hj:j<s.tasks.length):(forked s k kids).t j=s.t j:=by
 unfold forked Sys.t
 simp only [List.getD_eq_getElem?_getD]
 rw [List.getElem?_append_left hj]
theorem forked_new (s:Sys)(k:Nat)(kids:List Int)(j:Nat)(hj:j<kids.length):(forked s k kids).t (s.tasks.length+j)=newTask kids[j] k:=by
 unfold forked Sys.t
 simp only [List.getD_eq_getElem?_getD]
 rw [List.getElem?_append_right (by omega)]
 simp [hj]
theorem forked_n (s:Sys)(k:Nat)(kids:List Int):(forked s k kids).tasks.length=s.tasks.length+kids.length:=by simp [forked]
theorem forked_cases (s:Sys)(k:Nat)(kids:List Int)(j:Nat)(hj:j<(forked s k kids).tasks.length):(j<s.tasks.length∧(forked s k kids).t j=s.t j)∨∃ (i:Nat)(hi:i<kids.length),j=s.tasks.length+i∧(forked s k kids).t j=newTask kids[i] k:=by
 rw [forked_n] at hj
 rcases Nat.lt_or_ge j s.tasks.length with h | h
 ·exact .inl ⟨h,forked_old s k kids j h⟩
 ·obtain⟨i,rfl⟩:=Nat.exists_eq_add_of_le h
  exact .inr ⟨i,by omega,rfl,forked_new s k kids i (by omega)⟩
theorem newTask_ok (hc:0≤s.clock)(b up:Int)(hb:0≤b∧b<p.bodies.length):TInv p s.cells.length s.clock s.log.length (newTask b up) :=
 ⟨hb,by simp only [newTask];omega,by simp only [newTask];omega,by simp only [newTask];omega,fun e=>absurd rfl e,⟨rfl,rfl⟩,⟨rfl,rfl⟩,rfl,rfl,fun _=>⟨rfl,rfl,rfl,Int.le_refl _,by simp only [newTask];omega⟩,fun e=>by simp [newTask] at e,fun e=>by simp [newTask] at e,fun e=>by simp [newTask] at e,fun e=>by simp [newTask] at e,fun e=>by simp [newTask] at e,by simp only [newTask];omega,by simp only [newTask];omega,fun e=>by simp [newTask] at e,fun e=>by simp [newTask] at e⟩
theorem forked_inv (hI:SInv p s)(hk:k<s.tasks.length)(kids:List Int)(hb:∀ b ∈ kids,0≤b∧b<p.bodies.length):SInv p (forked s k kids):=by
 have hC:∀ i,(forked s k kids).c i=s.c i:=fun _=>rfl
 refine⟨hI.prog,hI.cl,hI.clock,by rw [forked_n];have:=hI.n1;omega,fun j hj=>?_,by rw [forked_old s k kids 0 (by have:=hI.n1;omega)];exact hI.up0,fun j h0 hj=>?_,fun i hi=>?_,fun i hi j hj=>?_,fun i hi=>?_⟩
 ·rcases forked_cases s k kids j hj with ⟨h,e⟩ | ⟨i,hi,rfl,e⟩
  ·rw [e];exact hI.t j h
  ·rw [e];exact newTask_ok hI.clock.1 _ _ (hb _ (List.getElem_mem hi))
 ·rcases forked_cases s k kids j hj with ⟨h,e⟩ | ⟨i,hi,rfl,e⟩
  ·rw [e];exact hI.up j h0 h
  ·rw [e];simp only [newTask];omega
 ·have:=hI.cell i hi
  rw [hC,forked_n]
  refine⟨this.1,this.2.1,this.2.2.1,this.2.2.2.1,this.2.2.2.2.1,by omega⟩
 ·rw [hC]
  rcases forked_cases s k kids j hj with ⟨h,e⟩ | ⟨m,hm,rfl,e⟩
  ·rw [e];exact hI.held i hi j h
  ·rw [e]
   have:=hI.cell i hi
   exact⟨fun x=>absurd x (hd_none (.inl rfl) _),fun x=>by omega⟩
 ·have h:=hI.log i hi
  change EInv p (forked s k kids) s.log[i] i
  refine⟨by rw [forked_n];have:=h.task;omega,?_,h.whn,h.frm,h.reads,h.puts⟩
  rw [forked_old _ _ _ _ (by have:=h.task;omega)];exact h.act
theorem setWay_forked (s:Sys)(k:Nat)(kids:List Int):forkS s k kids=setWay (forked s k kids) k 1:=rfl
theorem forkS_ok (hI:SInv p s)(hW:WInv p s)(hk:k<s.tasks.length)(hw:(s.t k).way=0)(hl:(s.t k).pc<(p.acts (s.t k).body).length)(ha:(p.act (s.t k)).kind=2)(hst:(s.t k).stage=0) :
  SInv p (forkS s k (p.act (s.t k)).kids)∧WInv p (forkS s k (p.act (s.t k)).kids):=by
 have hak:=act_kids hI.prog (hI.t k hk) hl ha
 have hbod:=(hI.t k hk).body
 generalize hks:(p.act (s.t k)).kids=kids at hak
 have hb:∀ b ∈ kids,0≤b∧b<p.bodies.length:=fun b hb=>by have:=hak.2.2 b hb;omega
 have h1:=forked_inv hI hk kids hb
 have hk1:k<(forked s k kids).tasks.length:=by rw [forked_n];omega
 have ek:=forked_old s k kids k hk
 rw [setWay_forked]
 refine⟨h1.way hk1 (by rw [ek];exact hst) 1 (by omega) (fun _=>by rw [ek];exact⟨hl,ha⟩) (by omega),?_⟩
 have hT:=way_t (s:=forked s k kids) hk1 1
 have hn:(setWay (forked s k kids) k 1).tasks.length=s.tasks.length+kids.length:=(List.length_set).trans (forked_n s k kids)
 have hold:∀ j,j<s.tasks.length→(setWay (forked s k kids) k 1).t j=if j=k then { s.t k with way:=1 } else s.t j:=fun j hj=>by rw [hT,ek,forked_old s k kids j hj]
 have hnew:∀ i (hi:i<kids.length),(setWay (forked s k kids) k 1).t (s.tasks.length+i)=newTask kids[i] k:=fun i hi=>by rw [hT,if_neg (by omega),forked_new s k kids i hi]
 refine⟨fun j h0 hj hl=>?_,fun j hj hj1=>?_⟩
 ·rw [hn] at hj
  rcases Nat.lt_or_ge j s.tasks.length with hjo | hjo
  ·have hup:((setWay (forked s k kids) k 1).t j).up=(s.t j).up:=by rw [hold j hjo];split<;>first | (rename_i e;rw [e];done) | rfl
   rw [hup]
   have hu:=hI.up j h0 hjo
   rw [hold _ (by omega)]
   split
   ·rfl
   ·have hls:isLive (s.t j)=true:=by
     rw [hold j hjo] at hl
     split at hl
     ·rename_i e;subst e;unfold isLive;rw [hw];rfl
     ·exact hl
    exact hW.live j h0 hjo hls
  ·obtain⟨i,rfl⟩:=Nat.exists_eq_add_of_le hjo
   rw [hnew i (by omega)]
   simp only [newTask,Int.toNat_natCast]
   rw [hold k hk,if_pos rfl]
 ·rw [hn] at hj
  rcases Nat.lt_or_ge j s.tasks.length with hjo | hjo
  ·by_cases e:j=k
   ·subst e
    rw [hold j hk,if_pos rfl]
    have ea:p.act { s.t j with way:=1 }=p.act (s.t j):=rfl
    rw [ea,hks]
    have hsub:((List.range kids.length).map fun i=>s.tasks.length+i).Sublist ((kidList (setWay (forked s j kids) j 1) j).filter fun i=>decide (((setWay (forked s j kids) j 1).t i).way≠4)):=by
     unfold kidList
     rw [hn,List.filter_filter,List.range_add,List.filter_append]
     refine List.Sublist.trans ?_ (List.sublist_append_right _ _)
     rw [List.filter_eq_self.2 (fun x hx=>by
      simp only [List.mem_map,List.mem_range] at hx
      obtain⟨i,hi,rfl⟩:=hx
      rw [hnew i hi]
      simp [newTask])]
     exact List.Sublist.refl _
    have:=hsub.length_le
    simpa using this
   ·rw [hold j hjo,if_neg e] at hj1 ⊢
    have h:=hW.waits j hjo hj1
    have e2:(kidList (setWay (forked s k kids) k 1) j).filter (fun i=>decide (((setWay (forked s k kids) k 1).t i).way≠4))=(kidList s j).filter fun i=>decide ((s.t i).way≠4):=by
     unfold kidList
     rw [hn,List.filter_filter,List.filter_filter,List.range_add,List.filter_append]
     have hz:(((List.range kids.length).map fun i=>s.tasks.length+i).filter fun i=>decide (((setWay (forked s k kids) k 1).t i).way≠4) && decide (((setWay (forked s k kids) k 1).t i).up=j))=[]:=by
      rw [List.filter_eq_nil_iff]
      intro x hx
      simp only [List.mem_map,List.mem_range] at hx
      obtain⟨i,hi,rfl⟩:=hx
      rw [hnew i hi]
      simp only [newTask,Bool.and_eq_true,decide_eq_true_eq]
      rintro ⟨h0,h⟩
      have h:=of_decide_eq_true h
      exact e (by omega)
     rw [hz,List.append_nil]
     refine List.filter_congr fun i hi=>?_
     rw [hold i (List.mem_range.1 hi)]
     split
     ·rename_i e;subst e
      rw [show decide ((1:Int)≠4)=true from rfl,decide_eq_true (show (s.t i).way≠4 by omega)]
     ·rfl
    rw [e2];exact h
  ·obtain⟨i,rfl⟩:=Nat.exists_eq_add_of_le hjo
   rw [hnew i (by omega)] at hj1
   simp [newTask] at hj1
/-! ### A step -/
theorem stepS_ok (hI:SInv p s)(hW:WInv p s)(hk:k<s.tasks.length)(hr:readyS s k=true):SInv p (stepS p s k)∧WInv p (stepS p s k):=by
 have hr':=hr
 unfold readyS at hr'
 simp only [Bool.and_eq_true,decide_eq_true_eq] at hr'
 have hck:=hr'.1
 have ht:=hI.t k hk
 unfold stepS
 dsimp only
 by_cases h1:(s.t k).way=1
 ·rw [if_pos h1];exact awaitS_ok hI hW hk h1 hr
 ·rw [if_neg h1]
  have hw:(s.t k).way=0:=by
   rcases Classical.em ((s.t k).way=0) with e | e
   ·exact e
   ·rw [if_neg e,if_neg h1] at hr';exact absurd hr'.2 (by simp)
  split
  ·rename_i hth
   have hnl:¬ (s.t k).pc<(p.acts (s.t k).body).length:=fun h=>by rw [(there_iff p (s.t k)).2 h] at hth;cases hth
   have hst:(s.t k).stage=0:=by
    rcases Classical.em ((s.t k).stage=0) with e | e
    ·exact e
    ·exact absurd (ht.runs e).2.1 hnl
   exact⟨hI.way hk hst 2 (by omega) (by omega) (fun _=>by have:=ht.pc;omega),hW.stop hk hI hw 2 (.inl rfl)⟩
  ·rename_i hth
   have hl:(s.t k).pc<(p.acts (s.t k).body).length:=(there_iff p (s.t k)).1 (by simpa using hth)
   split
   ·rename_i ha
    exact⟨hI.try_ hk hw hl ha hck,hW.fr hk (Fr.try_ hk _) hw⟩
   ·rename_i ha
    have hst:(s.t k).stage=0:=by
     rcases Classical.em ((s.t k).stage=0) with e | e
     ·exact e
     ·exact absurd (ht.runs e).2.2 ha
    split
    ·rename_i ha2;exact forkS_ok hI hW hk hw hl ha2 hst
    ·split
     ·exact⟨hI.way hk hst 3 (by omega) (by omega) (by omega),hW.stop hk hI hw 3 (.inr rfl)⟩
     ·have hn:=hI.next hk hst hl
      have e:(s.setT k { s.t k with pc:=(s.t k).pc+1 })=s.setT k { s.t k with way:=0,pc:=(s.t k).pc+1 }:=by rw [← hw]
      rw [e]
      refine⟨hn,hW.fr hk (Fr.setT hk ?_ rfl rfl) hw⟩
      exact hw.symm
end
end Go.Proofs.YtjacjafmimgfcaaGreat
namespace Go.Proofs.YtjacjafmimgfcaaGreat
open Go.RowKit
attribute [local go_sem ↓] Go.wp_at_zero Go.wp_at_succ
theorem cells_few {p:Prog}{s:Sys}(hI:SInv p s):s.cells.length≤3:=by
 have h:=hI.prog
 unfold progOk at h
 simp only [Bool.and_eq_true] at h
 have:=formOk_len h.1
 have:=hI.cl
 omega
theorem list_few {l:List Put}{n:Nat}(h:putsOk l n=true):l.length≤n:=by
 have:=asc_len l 0 n (putsOk_sorted h) (fun x hx=>by have:=putsOk_mem h hx;omega) (by omega)
 omega
structure TSmall (s:Sys) (k:Nat):Prop where
 regs:(s.t k).regs.length=3
 old:(s.t k).old.length=3
 reads:(s.t k).reads.length≤3
 puts:(s.t k).puts.length≤3
 pc0:0≤(s.t k).pc
 pc1:(s.t k).pc≤4
 rcell:∀ x ∈ (s.t k).reads,0≤x.cell∧x.cell<s.cells.length
 pcell:∀ x ∈ (s.t k).puts,0≤x.cell∧x.cell<s.cells.length
theorem acts_few {p:Prog}(hp:progOk p=true)(b:Int)(h0:0≤b)(h1:b<p.bodies.length):(p.acts b).length≤4:=by
 unfold progOk at hp
 simp only [Bool.and_eq_true] at hp
 have h2:b.toNat<p.bodies.length:=by omega
 have:=(formOk_acts hp.1 h2).1
 unfold Prog.acts
 rw [getD_at _ _ _ h2]
 exact this
theorem SInv.small {p:Prog}{s:Sys}(hI:SInv p s){k:Nat}(hk:k<s.tasks.length):TSmall s k:=by
 have ht:=hI.t k hk
 have hc:=cells_few hI
 have h1:=list_few ht.reads
 have h2:=list_few ht.puts
 have h3:=acts_few hI.prog _ ht.body.1 ht.body.2
 exact⟨ht.regs.2,ht.old.2,by omega,by omega,ht.pc.1,by have:=ht.pc.2;omega,fun x hx=>by have:=putsOk_mem ht.reads hx;omega,fun x hx=>by have:=putsOk_mem ht.puts hx;omega⟩
theorem check_calls (m:Mc)(s:Sys)(vt:Value)(w:World)(k:Nat)(h:Mach m s vt w)(hk:k<s.tasks.length)(hI:SInv m.p s)(hst:(s.t k).stage=4) :
  Calls Tryz.prog 167 #[.pointer (some ⟨m.g,0,none⟩),.int .i64 k] w (Steps m (checkS s k) vt):=by
 have HM:=Lib.hid h
 obtain⟨R,vc,vl,ts,es,H⟩:=h
 obtain⟨gt,cap,Ar,cr,Ao,co,Ad,cd,Au,cu,rfl,hx,hr,ho,hd,hu⟩:=H.at_ hk
 obtain⟨hne,hlt,hgl,_,g3,g4,g5,hat,hfz,hfg⟩:=H.see hx
 have hmax:=H.max
 have hS:=hI.small hk
 have h4:=(hI.t k hk).s4 hst
 have c0:=hat.c0;have c1:=hat.c1;have c2:=hat.c2;have c3:=hat.c3;have c4:=hat.c4;have c5:=hat.c5;have c6:=hat.c6;have c7:=hat.c7;have c8:=hat.c8;have c9:=hat.c9;have c10:=hat.c10;have c11:=hat.c11;have c12:=hat.c12
 have x1:(k:Int)<s.tasks.length:=by omega
 have x3:(0:Int)≤k:=by omega
 have hb:=fun o=>alB w o
 have p0:=h4.1
 have p1:=h4.2.1
 have hrl:=hS.reads
 have HO:=Lib.hid (show (s.t k).old.length≤1000000 by have:=hS.old;omega)
 have HH:=Lib.hid (And.intro H hx)
 have HI:=Lib.hid hS
 clear H hx hat ho hr hu h4 hS hst hI
 by_cases hp:(s.t k).pos<(s.t k).reads.length
 ·obtain⟨q,hq⟩:∃ q:Nat,(s.t k).pos=(q:Int):=⟨(s.t k).pos.toNat,by omega⟩
  have hql:(s.t k).pos.toNat<(s.t k).reads.length:=by omega
  obtain⟨bd,od,rfl,hbl,r0,r1⟩:=put_lit hd hql
  have hcell:=HI.out.rcell _ (List.getElem_mem hql)
  have a1:decide ((s.t k).pos ≥ ((s.t k).reads.length:Int))=false:=by simp;omega
  have hw1:IntKind.i64.wrap ((s.t k).pos+1)=(s.t k).pos+1:=IntWalk.i64_in _ (by omega)
  have hcs:checkS s k=if blind s k (s.t k).reads[(s.t k).pos.toNat].cell then againS s k else s.setT k (stepT (s.t k)):=by unfold checkS;dsimp only;rw [if_neg (by omega),getD_at _ _ _ hql]
  have HC:=Lib.hid hcs
  clear hcs hq
  cases hbd:blind s k (s.t k).reads[(s.t k).pos.toNat].cell with
  | true =>
   have HB:=Lib.hid hbd
   clear hbd
   go_enter Tryz.func167,Tryz.ntmps167
   go_wp2_with (first
    | (go_at_call 173;go_must (refine(blind_calls m s _ _ k _ (HM.out.al _) hk hcell.1 hcell.2).mono ?_;rintro e w2 ⟨rfl,hb2⟩;rw [HB.out];have HM2:=Lib.hid ((HM.out.al _).below hb2))) | (go_at_call 169;go_must (refine(again_calls m s _ _ k HM2.out hk HO.out).mono ?_;rintro e w3 ⟨rfl,H3⟩)))
   go_end0
   exact⟨rfl,by rw [HC.out,HB.out];exact H3⟩
  | false =>
   have HB:=Lib.hid hbd
   clear hbd
   go_enter Tryz.func167,Tryz.ntmps167
   go_wp2_with (go_at_call 173;go_must (refine(blind_calls m s _ _ k _ (HM.out.al _) hk hcell.1 hcell.2).mono ?_;rintro e w2 ⟨rfl,hb2⟩;rw [HB.out];have H2:=(HH.out.1.below (hb _)).below hb2;have e6:=(hb2.cell (p:=⟨w.heap.size,6,none⟩) (by simp)).trans (cell_of_row _ _ 6 _ _ _ (heap_alloc_new w _));simp at e6))
   obtain⟨_,hlt2,hgl2,_,p3,_,_,hat2,hfz2,_⟩:=H2.see HH.out.2
   have d6:=hat2.c6
   have H3:=Lib.hid ((H2.int HH.out.2 6 (by omega) ((s.t k).pos+1) (stepT (s.t k)) rfl rfl rfl rfl rfl).below ((Below.refl _ _).drew)).mach
   clear H2 hat2 g3 g4 g5 hfz hfg c0 c1 c2 c3 c4 c5 c6 c7 c8 c9 c10 c11 c12
   go_still_tail 11,(by kernel_rfl)
   go_wp2
   go_end0
   exact⟨rfl,by rw [HC.out,HB.out];exact H3.out⟩
 ·have a1:decide ((s.t k).pos ≥ ((s.t k).reads.length:Int))=true:=by simp;omega
  have HC:=Lib.hid (show checkS s k=s.setT k (stageT (s.t k) 5) by unfold checkS;dsimp only;rw [if_pos (by omega)])
  go_enter Tryz.func167,Tryz.ntmps167
  go_wp2_with (go_at_call 166;go_must (refine(stage_calls m s _ _ k 5 (HM.out.al _) hk).mono ?_;rintro e w9 ⟨rfl,H9⟩))
  go_end0
  exact⟨rfl,by rw [HC.out];exact H9⟩
end Go.Proofs.YtjacjafmimgfcaaGreat
namespace Go.Proofs.YtjacjafmimgfcaaGreat
open Go.RowKit
attribute [local go_sem ↓] Go.wp_at_zero Go.wp_at_succ
theorem sys_ci {s:Sys}{c:Int}(h0:0≤c)(h1:c<s.cells.length):∃ h:c.toNat<s.cells.length,s.c c=s.cells[c.toNat]:=by
 have h:c.toNat<s.cells.length:=by omega
 refine⟨h,?_⟩
 unfold Sys.c
 exact getD_at _ _ _ h
theorem lock_calls (m:Mc)(s:Sys)(vt:Value)(w:World)(k:Nat)(h:Mach m s vt w)(hk:k<s.tasks.length)(hI:SInv m.p s)(hst:(s.t k).stage=2) :
  Calls Tryz.prog 165 #[.pointer (some ⟨m.g,0,none⟩),.int .i64 k] w (Steps m (lockS s k) vt):=by
 have HM:=Lib.hid h
 obtain⟨R,vc,vl,ts,es,H⟩:=h
 obtain⟨gt,cap,Ar,cr,Ao,co,Ad,cd,Au,cu,rfl,hx,hr,ho,hd,hu⟩:=H.at_ hk
 have hmax:=H.max
 have hS:=hI.small hk
 have h4:=(hI.t k hk).s2 hst
 have p0:=h4.1
 have p1:=h4.2.1
 have hul:=hS.puts
 have hql:(s.t k).pos.toNat<(s.t k).puts.length:=by omega
 obtain⟨bu,ou,rfl,hbu,r0,r1⟩:=put_lit hu hql
 have hcell:=hS.pcell _ (List.getElem_mem hql)
 have hget:(s.t k).puts.getD (s.t k).pos.toNat noPut=(s.t k).puts[(s.t k).pos.toNat]:=getD_at _ _ _ hql
 generalize (s.t k).puts[(s.t k).pos.toNat]=xp at *
 obtain⟨hcl,hsc⟩:=sys_ci hcell.1 hcell.2
 obtain⟨gc,capc,rfl,hRc,hbc,hlc,hnec,d0,d1,d2,hfzc⟩:=H.cellAt hcl
 obtain⟨hne,hlt,hgl,g2,g3,g4,g5,hat,hfz,hfg⟩:=H.see hx
 have hcm:s.cells.length≤9223372036854775807:=by have:=cells_few hI;omega
 have hgct:gc≠gt:=fun e=>by have h1:=H.sys.Rt gt rfl;rw [e,h1] at hRc;cases hRc
 have c0:=hat.c0;have c1:=hat.c1;have c2:=hat.c2;have c3:=hat.c3;have c4:=hat.c4;have c5:=hat.c5;have c6:=hat.c6;have c7:=hat.c7;have c8:=hat.c8;have c9:=hat.c9;have c10:=hat.c10;have c11:=hat.c11;have c12:=hat.c12
 have x1:(k:Int)<s.tasks.length:=by omega
 have x3:(0:Int)≤k:=by omega
 have y1:=hcell.1
 have y2:=hcell.2
 have hls:lockS s k=if 0≤s.cells[xp.cell.toNat].lock then againS s k else { s with cells:=s.cells.set xp.cell.toNat { s.cells[xp.cell.toNat] with lock:=k },tasks:=s.tasks.set k (if (s.t k).pos+1=(s.t k).puts.length then stageT (s.t k) 3 else stepT (s.t k)) }:=by
  unfold lockS;dsimp only;rw [hget,hsc]
 have HL:=Lib.hid hls
 have HO:=Lib.hid (show (s.t k).old.length≤1000000 by have:=hS.old;omega)
 have HH:=Lib.hid (And.intro H hx)
 clear hls H hx hat ho hr hd hu h4 hS hst hI hget hsc hcell
 by_cases e1:0≤s.cells[xp.cell.toNat].lock
 ·have a1:decide (s.cells[xp.cell.toNat].lock ≥ 0)=true:=by simpa using e1
  have E1:=Lib.hid e1
  clear e1
  go_enter Tryz.func165,Tryz.ntmps165
  go_wp2_with (go_at_call 169;go_must (refine(again_calls m s _ _ k (HM.out.al _) hk HO.out).mono ?_;rintro e w3 ⟨rfl,H3⟩))
  go_end0
  exact⟨rfl,by rw [HL.out,if_pos E1.out];exact H3⟩
 ·have a1:decide (s.cells[xp.cell.toNat].lock ≥ 0)=false:=by simpa using e1
  have hw1:IntKind.i64.wrap ((s.t k).pos+1)=(s.t k).pos+1:=IntWalk.i64_in _ (by omega)
  have HL2:=Lib.hid (show lockS s k={ s with cells:=s.cells.set xp.cell.toNat { s.cells[xp.cell.toNat] with lock:=k },tasks:=s.tasks.set k (if (s.t k).pos+1=(s.t k).puts.length then stageT (s.t k) 3 else stepT (s.t k)) } by rw [HL.out,if_neg e1])
  clear e1
  have H2:=(HH.out.1.lock hcl k).below (alB _ (.cells #[.int .i64 (s.t k).body,.int .i64 (s.t k).pc,.int .i64 (s.t k).up,.slice Ar (s.t k).regs.length cr,.int .i64 (s.t k).way,.int .i64 (s.t k).stage,.int .i64 (s.t k).pos,.int .i64 (s.t k).since,.slice Ao (s.t k).old.length co,.slice Ad (s.t k).reads.length cd,.slice (some ⟨bu,ou,none⟩) (s.t k).puts.length cu,.int .i64 (s.t k).whn,.int .i64 (s.t k).frm] 118))
  go_enter Tryz.func165,Tryz.ntmps165
  go_wp2
  obtain⟨W,HW⟩:∃ W,W=(w.setCell ⟨gc,xp.cell.toNat*3+2,none⟩ (.int .i64 k)).alloc (.cells #[.int .i64 (s.t k).body,.int .i64 (s.t k).pc,.int .i64 (s.t k).up,.slice Ar (s.t k).regs.length cr,.int .i64 (s.t k).way,.int .i64 (s.t k).stage,.int .i64 (s.t k).pos,.int .i64 (s.t k).since,.slice Ao (s.t k).old.length co,.slice Ad (s.t k).reads.length cd,.slice (some ⟨bu,ou,none⟩) (s.t k).puts.length cu,.int .i64 (s.t k).whn,.int .i64 (s.t k).frm] 118):=⟨_,rfl⟩
  have qB:W.heap[w.heap.size]?=some (.cells #[.int .i64 (s.t k).body,.int .i64 (s.t k).pc,.int .i64 (s.t k).up,.slice Ar (s.t k).regs.length cr,.int .i64 (s.t k).way,.int .i64 (s.t k).stage,.int .i64 (s.t k).pos,.int .i64 (s.t k).since,.slice Ao (s.t k).old.length co,.slice Ad (s.t k).reads.length cd,.slice (some ⟨bu,ou,none⟩) (s.t k).puts.length cu,.int .i64 (s.t k).whn,.int .i64 (s.t k).frm] 118 (0,0)):=by rw [HW];have:=heap_alloc_new (w.setCell ⟨gc,xp.cell.toNat*3+2,none⟩ (.int .i64 k)) (.cells #[.int .i64 (s.t k).body,.int .i64 (s.t k).pc,.int .i64 (s.t k).up,.slice Ar (s.t k).regs.length cr,.int .i64 (s.t k).way,.int .i64 (s.t k).stage,.int .i64 (s.t k).pos,.int .i64 (s.t k).since,.slice Ao (s.t k).old.length co,.slice Ad (s.t k).reads.length cd,.slice (some ⟨bu,ou,none⟩) (s.t k).puts.length cu,.int .i64 (s.t k).whn,.int .i64 (s.t k).frm] 118);simpa using this
  rw [← HW] at H2 ⊢
  clear HW
  obtain⟨e0,e1,e2,e3,e4,e5,e6,e7,e8,e9,e10,e11,e12⟩:=block13 qB
  obtain⟨_,hlt2,hgl2,_,p3,_,_,hat2,hfz2,_⟩:=H2.see HH.out.2
  have d6:=hat2.c6
  have hlB:w.heap.size≠gt:=by omega
  have H3:=(H2.int HH.out.2 6 (by omega) ((s.t k).pos+1) (stepT (s.t k)) rfl rfl rfl rfl rfl).below ((Below.refl _ _).drew)
  have HM3:=Lib.hid H3.mach
  have hk3:=Lib.hid (show k<(Sys.setT { s with cells:=s.cells.set xp.cell.toNat { s.cells[xp.cell.toNat] with lock:=k } } k (stepT (s.t k))).tasks.length by rw [setT_n];exact hk)
  clear H2 H3 hat2 qB g2 g3 g4 g5 hfz hfg hfzc c0 c1 c2 c3 c4 c5 c6 c7 c8 c9 c10 c11 c12 d0 d1 d2 r0 r1 e0 e1 e2 e3 e4 e5 e7 e8 e9 e11 e12
  by_cases e2:(s.t k).pos+1=(s.t k).puts.length
  ·have a2:((s.t k).pos+1 == ((s.t k).puts.length:Int))=true:=by simpa using e2
   have E2:=Lib.hid e2
   clear e2
   go_still_tail 11,(by kernel_rfl)
   go_wp2_with (go_at_call 166;go_must (refine(stage_calls m _ _ _ k 3 HM3.out hk3.out).mono ?_;rintro e w9 ⟨rfl,H9⟩))
   go_end0
   refine⟨rfl,?_⟩
   rw [HL2.out,if_pos E2.out]
   rw [setT_setT,setT_t (by exact hk)] at H9
   exact H9
  ·have a2:((s.t k).pos+1 == ((s.t k).puts.length:Int))=false:=by simpa using e2
   have E2:=Lib.hid e2
   clear e2
   go_still_tail 11,(by kernel_rfl)
   go_wp2
   go_end0
   refine⟨rfl,?_⟩
   rw [HL2.out,if_neg E2.out]
   exact HM3.out
end Go.Proofs.YtjacjafmimgfcaaGreat
namespace Go.Proofs.YtjacjafmimgfcaaGreat
open Go.RowKit
attribute [local go_sem ↓] Go.wp_at_zero Go.wp_at_succ
theorem MachO.cell3 {m:Mc}{R:Nat→Role}{w:World}{vt vl:Value}{s:Sys}{ts:List TV}{es:List EV}{gc n cap:Nat}(h:MachO m R w (.slice (some ⟨gc,0,none⟩) n cap) vt vl s ts es){i:Nat}(hi:i<s.cells.length)(a b c:Int) :
  MachO m R (((w.setCell ⟨gc,i*3,none⟩ (.int .i64 a)).setCell ⟨gc,i*3+1,none⟩ (.int .i64 b)).setCell ⟨gc,i*3+2,none⟩ (.int .i64 c)) (.slice (some ⟨gc,0,none⟩) n cap) vt vl { s with cells:=s.cells.set i ⟨a,b,c⟩ } ts es:=by
 have hn:n=s.cells.length:=by obtain⟨A,c,e,_⟩:=Own.slice h.sys.c;injection e
 have f:∀ {w1 w2:World} (o:Nat) (u:Value),Keep (fun k=>Value.ownBlock (.slice (some ⟨gc,0,none⟩) n cap)=some k) w1 w2→Keep (fun k=>Value.ownBlock (.slice (some ⟨gc,0,none⟩) n cap)=some k) w1 (w2.setCell ⟨gc,o,none⟩ u) :=
  fun o u hk=>Keep.setCell (T:=fun k=>Value.ownBlock (.slice (some ⟨gc,0,none⟩) n cap)=some k) (p:=⟨gc,o,none⟩) hk (fun _=>rfl) u
 refine h.cs (f _ _ (f _ _ (f _ _ (Keep.refl _ w)))) ?_
 have h0:OwnF kCell 130 w m.base (.slice (some ⟨gc,0,none⟩) n cap) (s.cells.set i s.cells[i]):=by rw [set_selfC];exact h.sys.c
 have h1:=OwnF.putCell h0 hn hi 0 (by omega) (.int .i64 a) { s.cells[i] with num:=a } rfl
 have h2:=OwnF.putCell h1 hn hi 1 (by omega) (.int .i64 b) { s.cells[i] with num:=a,time:=b } rfl
 exact OwnF.putCell h2 hn hi 2 (by omega) (.int .i64 c) ⟨a,b,c⟩ rfl
theorem write_calls (m:Mc)(s:Sys)(vt:Value)(w:World)(k:Nat)(h:Mach m s vt w)(hk:k<s.tasks.length)(hI:SInv m.p s)(hst:(s.t k).stage=5)(hlg:s.log.length≤1000000000) :
  Calls Tryz.prog 168 #[.pointer (some ⟨m.g,0,none⟩),.int .i64 k] w (Steps m (writeS s k) vt):=by
 obtain⟨R,vc,vl,ts,es,H⟩:=h
 obtain⟨gt,cap,Ar,cr,Ao,co,Ad,cd,Au,cu,rfl,hx,hr,ho,hd,hu⟩:=H.at_ hk
 have hmax:=H.max
 have hS:=hI.small hk
 have h4:=(hI.t k hk).s5 hst
 have p0:=h4.1
 have p1:=h4.2.1
 have hul:=hS.puts
 have hql:(s.t k).pos.toNat<(s.t k).puts.length:=by omega
 obtain⟨bu,ou,rfl,hbu,r0,r1⟩:=put_lit hu hql
 have hcell:=hS.pcell _ (List.getElem_mem hql)
 have hget:(s.t k).puts.getD (s.t k).pos.toNat noPut=(s.t k).puts[(s.t k).pos.toNat]:=getD_at _ _ _ hql
 generalize (s.t k).puts[(s.t k).pos.toNat]=xp at *
 obtain⟨hcl,hsc⟩:=sys_ci hcell.1 hcell.2
 obtain⟨gc,capc,rfl,hRc,hbc,hlc,hnec,d0,d1,d2,hfzc⟩:=H.cellAt hcl
 obtain⟨hne,hlt,hgl,g2,g3,g4,g5,hat,hfz,hfg⟩:=H.see hx
 have hcm:s.cells.length≤9223372036854775807:=by have:=cells_few hI;omega
 have hgct:gc≠gt:=fun e=>by have h1:=H.sys.Rt gt rfl;rw [e,h1] at hRc;cases hRc
 have c0:=hat.c0;have c1:=hat.c1;have c2:=hat.c2;have c3:=hat.c3;have c4:=hat.c4;have c5:=hat.c5;have c6:=hat.c6;have c7:=hat.c7;have c8:=hat.c8;have c9:=hat.c9;have c10:=hat.c10;have c11:=hat.c11;have c12:=hat.c12
 have x1:(k:Int)<s.tasks.length:=by omega
 have x3:(0:Int)≤k:=by omega
 have y1:=hcell.1
 have y2:=hcell.2
 have hls:writeS s k=if (s.t k).pos+1=(s.t k).puts.length then endS { s with cells:=s.cells.set xp.cell.toNat ⟨xp.num,(s.t k).whn,-1⟩,tasks:=s.tasks.set k (stepT (s.t k)) } k (s.t k).whn else { s with cells:=s.cells.set xp.cell.toNat ⟨xp.num,(s.t k).whn,-1⟩,tasks:=s.tasks.set k (stepT (s.t k)) }:=by
  unfold writeS;dsimp only;rw [hget]
 have HL:=Lib.hid hls
 have HH:=Lib.hid (And.intro H hx)
 have HS:=Lib.hid hS
 clear hls H hx hat ho hr hd hu h4 hS hst hI hget hsc hcell
 have hw1:IntKind.i64.wrap ((s.t k).pos+1)=(s.t k).pos+1:=IntWalk.i64_in _ (by omega)
 go_enter Tryz.func168,Tryz.ntmps168
 go_wp2
 obtain⟨W,HW⟩:∃ W,W=(w.alloc (.cells #[.int .i64 (s.t k).body,.int .i64 (s.t k).pc,.int .i64 (s.t k).up,.slice Ar (s.t k).regs.length cr,.int .i64 (s.t k).way,.int .i64 (s.t k).stage,.int .i64 (s.t k).pos,.int .i64 (s.t k).since,.slice Ao (s.t k).old.length co,.slice Ad (s.t k).reads.length cd,.slice (some ⟨bu,ou,none⟩) (s.t k).puts.length cu,.int .i64 (s.t k).whn,.int .i64 (s.t k).frm] 118)).alloc (.cells #[.int .i64 xp.cell,.int .i64 xp.num] 127):=⟨_,rfl⟩
 have hbW:Below w.heap.size w W:=by rw [HW];exact alB2 w _ _
 have qB:W.heap[w.heap.size]?=some (.cells #[.int .i64 (s.t k).body,.int .i64 (s.t k).pc,.int .i64 (s.t k).up,.slice Ar (s.t k).regs.length cr,.int .i64 (s.t k).way,.int .i64 (s.t k).stage,.int .i64 (s.t k).pos,.int .i64 (s.t k).since,.slice Ao (s.t k).old.length co,.slice Ad (s.t k).reads.length cd,.slice (some ⟨bu,ou,none⟩) (s.t k).puts.length cu,.int .i64 (s.t k).whn,.int .i64 (s.t k).frm] 118 (0,0)):=by rw [HW];exact(Below.heap_alloc _ _ _ (by simp)).trans (heap_alloc_new w _)
 have qC:W.heap[w.heap.size+1]?=some (.cells #[.int .i64 xp.cell,.int .i64 xp.num] 127 (0,0)):=by rw [HW];have:=heap_alloc_new (w.alloc (.cells #[.int .i64 (s.t k).body,.int .i64 (s.t k).pc,.int .i64 (s.t k).up,.slice Ar (s.t k).regs.length cr,.int .i64 (s.t k).way,.int .i64 (s.t k).stage,.int .i64 (s.t k).pos,.int .i64 (s.t k).since,.slice Ao (s.t k).old.length co,.slice Ad (s.t k).reads.length cd,.slice (some ⟨bu,ou,none⟩) (s.t k).puts.length cu,.int .i64 (s.t k).whn,.int .i64 (s.t k).frm] 118)) (.cells #[.int .i64 xp.cell,.int .i64 xp.num] 127);simpa using this
 rw [← HW]
 clear HW
 obtain⟨e0,e1,e2,e3,e4,e5,e6,e7,e8,e9,e10,e11,e12⟩:=block13 qB
 have f0:W.cell? ⟨w.heap.size+1,0,none⟩=some (.int .i64 xp.cell):=cell_of_row W _ 0 _ _ _ qC
 have f1:W.cell? ⟨w.heap.size+1,1,none⟩=some (.int .i64 xp.num):=cell_of_row W _ 1 _ _ _ qC
 have H1:=HH.out.1.below hbW
 obtain⟨gc',capc',ec,_,_,hlc1,_,d0W,d1W,d2W,hfzcW⟩:=H1.cellAt hcl
 injection ec with ec1 ec2 ec3
 injection ec1 with ec1
 injection ec1 with ec1
 subst ec1
 obtain⟨_,hltW,hglW,g2W,g3W,_,_,hatW,hfzW,_⟩:=H1.see HH.out.2
 have c6W:=hatW.c6
 have H2:=(H1.cell3 hcl xp.num (s.t k).whn (-1)).below ((Below.refl _ _).drew)
 have hk3:=Lib.hid (show k<(Sys.setT { s with cells:=s.cells.set xp.cell.toNat ⟨xp.num,(s.t k).whn,-1⟩ } k (stepT (s.t k))).tasks.length by rw [setT_n];exact hk)
 have hB1:w.heap.size≠gt:=by omega
 have hB2:w.heap.size≠gc:=by omega
 have H2':=Lib.hid H2
 clear H1 H2 hatW qB qC g2 g3 g4 g5 hfz hfg hfzc c0 c1 c2 c3 c4 c5 c6 c7 c8 c9 c10 c11 c12 d0 d1 d2 r0 r1 e0 e1 e2 e3 e4 e5 e7 e8 e9 e12 c6W
 go_still_tail 13,(by kernel_rfl)
 go_wp2
 obtain⟨W2,HW2⟩:∃ W2,W2=(((W.setCell ⟨gc,xp.cell.toNat*3,none⟩ (.int .i64 xp.num)).setCell ⟨gc,xp.cell.toNat*3+1,none⟩ (.int .i64 (s.t k).whn)).setCell ⟨gc,xp.cell.toNat*3+2,none⟩ (.int .i64 (-1))).drew:=⟨_,rfl⟩
 have H2:=H2'.out
 have q6:W2.cell? ⟨w.heap.size,6,none⟩=some (.int .i64 (s.t k).pos):=by rw [HW2];exact cell_far (cell_far (cell_far e6 hB2.symm) hB2.symm) hB2.symm
 have q10:W2.cell? ⟨w.heap.size,10,none⟩=some (.slice (some ⟨bu,ou,none⟩) (s.t k).puts.length cu):=by rw [HW2];exact cell_far (cell_far (cell_far e10 hB2.symm) hB2.symm) hB2.symm
 have q11:W2.cell? ⟨w.heap.size,11,none⟩=some (.int .i64 (s.t k).whn):=by rw [HW2];exact cell_far (cell_far (cell_far e11 hB2.symm) hB2.symm) hB2.symm
 rw [← HW2] at H2 ⊢
 clear HW2 e6 e10 e11 H2' g2W g3W hfzW hfzcW d0W d1W d2W f0 f1
 obtain⟨_,hlt2,hgl2,_,p3,_,_,hat2,hfz2,_⟩:=H2.see HH.out.2
 have c62:=hat2.c6
 have H3:=(H2.int HH.out.2 6 (by omega) ((s.t k).pos+1) (stepT (s.t k)) rfl rfl rfl rfl rfl).below ((Below.refl _ _).drew)
 have HM3:=Lib.hid H3.mach
 clear H2 H3 hat2
 by_cases e2:(s.t k).pos+1=(s.t k).puts.length
 ·have a2:((s.t k).pos+1 == ((s.t k).puts.length:Int))=true:=by simpa using e2
  have E2:=Lib.hid e2
  clear e2
  go_still_tail 11,(by kernel_rfl)
  go_wp2_with (go_at_call 170;go_must (refine(end_calls m _ _ _ k (s.t k).whn HM3.out hk3.out (by rw [setT_t (by exact hk)];have:=HS.out.reads;simp only [stepT];omega) (by rw [setT_t (by exact hk)];have:=HS.out.puts;simp only [stepT];omega) (by exact hlg) (by rw [setT_t (by exact hk)];have:=HS.out.pc0;have:=HS.out.pc1;simp only [stepT];omega)).mono ?_;rintro e w9 ⟨rfl,H9⟩))
  go_end0
  refine⟨rfl,?_⟩
  rw [HL.out,if_pos E2.out]
  exact H9
 ·have a2:((s.t k).pos+1 == ((s.t k).puts.length:Int))=false:=by simpa using e2
  have E2:=Lib.hid e2
  clear e2
  go_still_tail 11,(by kernel_rfl)
  go_wp2
  go_end0
  refine⟨rfl,?_⟩
  rw [HL.out,if_neg E2.out]
  exact HM3.out
end Go.Proofs.YtjacjafmimgfcaaGreat
