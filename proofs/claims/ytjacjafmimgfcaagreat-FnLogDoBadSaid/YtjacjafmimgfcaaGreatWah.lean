/- Lists of cells and numbers; who holds what; those that were begun: as the program counts, and as the reference. Plain Lean.; What stays true while steps are taken: plain Lean. The parts of a system in order, and a task's own steps. -/
import Derived.Test.YtjacjafmimgfcaaGreatWag
set_option linter.unusedVariables false
set_option linter.unusedSimpArgs false
namespace Go.Proofs.YtjacjafmimgfcaaGreat
theorem putsOk_at {l:List Put}{n:Int}(h:putsOk l n=true){i:Nat}(hi:i<l.length):0≤l[i].cell∧l[i].cell≤n-1∧0≤l[i].num∧l[i].num≤99∧(∀ j,j+1=i→∀ hj:j<l.length,l[j].cell<l[i].cell):=by
 unfold putsOk at h
 rw [List.all_eq_true] at h
 have:=h i (List.mem_range.2 hi)
 simp only [putAtOk,inR,Bool.and_eq_true,Bool.or_eq_true,decide_eq_true_eq] at this
 rw [getD_at _ _ _ hi] at this
 refine⟨by omega,by omega,by omega,by omega,fun j hj hjl=>?_⟩
 subst hj
 rcases this.2 with h0 | h0
 ·omega
 ·rw [show j+1-1=j from by omega,getD_at _ _ _ hjl] at h0
  exact h0
theorem putsOk_lt {l:List Put}{n:Int}(h:putsOk l n=true):∀ (d i j:Nat)(hi:i<l.length)(hj:j<l.length),i+d+1=j→l[i].cell<l[j].cell:=by
 intro d
 induction d with
 | zero=>intro i j hi hj e;exact(putsOk_at h hj).2.2.2.2 i e hi
 | succ d ih =>
  intro i j hi hj e
  have h1:=ih i (i+d+1) hi (by omega) rfl
  have h2:=(putsOk_at h hj).2.2.2.2 (i+d+1) (by omega) (by omega)
  omega
theorem putsOk_sorted {l:List Put}{n:Int}(h:putsOk l n=true):l.Pairwise (fun x y=>x.cell<y.cell):=by
 rw [List.pairwise_iff_getElem]
 intro i j hi hj hij
 exact putsOk_lt h (j-i-1) i j hi hj (by omega)
theorem putsOk_mem {l:List Put}{n:Int}(h:putsOk l n=true){x:Put}(hx:x ∈ l):0≤x.cell∧x.cell≤n-1∧0≤x.num∧x.num≤99:=by
 obtain⟨i,hi,rfl⟩:=List.mem_iff_getElem.1 hx
 have:=putsOk_at h hi
 exact⟨this.1,this.2.1,this.2.2.1,this.2.2.2.1⟩
theorem putsOk_of {l:List Put}{n:Int}(hs:l.Pairwise (fun x y=>x.cell<y.cell))(hm:∀ x ∈ l,0≤x.cell∧x.cell≤n-1∧0≤x.num∧x.num≤99):putsOk l n=true:=by
 unfold putsOk
 rw [List.all_eq_true]
 intro i hi
 have hi:=List.mem_range.1 hi
 have hmm:=hm _ (List.getElem_mem hi)
 simp only [putAtOk,inR,Bool.and_eq_true,Bool.or_eq_true,decide_eq_true_eq]
 rw [getD_at _ _ _ hi]
 refine⟨⟨⟨by omega,by omega⟩,⟨by omega,by omega⟩⟩,?_⟩
 rcases Nat.eq_zero_or_pos i with h0 | h0
 ·exact .inl h0
 ·right
  rw [getD_at _ _ _ (by omega)]
  exact List.pairwise_iff_getElem.1 hs (i-1) i (by omega) hi (by omega)
/-! ### Where a cell is -/
theorem findPut_none {l:List Put}{c:Int}:findPut l c=-1 ↔ ∀ x ∈ l,x.cell≠c:=by
 unfold findPut
 cases h:l.findIdx? (fun x=>decide (x.cell=c)) with
 | none =>
  rw [List.findIdx?_eq_none_iff] at h
  exact⟨fun _ x hx=>by have:=h x hx;simpa using this,fun _=>rfl⟩
 | some i =>
  rw [List.findIdx?_eq_some_iff_getElem] at h
  obtain⟨hi,hp,_⟩:=h
  simp at hp
  exact⟨fun e=>by simp at e,fun e=>absurd hp (e _ (List.getElem_mem hi))⟩
theorem findPut_some {l:List Put}{c:Int}{i:Nat}:findPut l c=(i:Int) ↔ ∃ hi:i<l.length,l[i].cell=c∧∀ (j:Nat)(hj:j<i),(l[j]'(by omega)).cell≠c:=by
 unfold findPut
 cases h:l.findIdx? (fun x=>decide (x.cell=c)) with
 | none =>
  rw [List.findIdx?_eq_none_iff] at h
  constructor
  ·intro e;simp at e
  ·rintro ⟨hi,e,_⟩
   have:=h _ (List.getElem_mem hi)
   simp [e] at this
 | some k =>
  rw [List.findIdx?_eq_some_iff_getElem] at h
  obtain⟨hk,hp,hlt⟩:=h
  simp at hp
  constructor
  ·intro e
   have e:k=i:=by simp at e;omega
   subst e
   exact⟨hk,hp,fun j hj=>by have:=hlt j hj;simpa using this⟩
  ·rintro ⟨hi,e,hl⟩
   rcases Nat.lt_trichotomy k i with h1 | h1 | h1
   ·exact absurd hp (hl k h1)
   ·simp [h1]
   ·exact absurd e (by have:=hlt i h1;simpa using this)
theorem findPut_cases (l:List Put)(c:Int):(findPut l c=-1∧∀ x ∈ l,x.cell≠c)∨∃ (i:Nat)(hi:i<l.length),findPut l c=(i:Int)∧l[i].cell=c∧∀ (j:Nat)(hj:j<i),(l[j]'(by omega)).cell≠c:=by
 rcases Classical.em (findPut l c=-1) with h | h
 ·exact .inl ⟨h,findPut_none.1 h⟩
 ·right
  have:∃ i:Nat,findPut l c=(i:Int):=by
   unfold findPut at h ⊢
   split
   ·rename_i i _;exact⟨i,rfl⟩
   ·rename_i hn;simp [hn] at h
  obtain⟨i,hi⟩:=this
  obtain⟨h1,h2,h3⟩:=findPut_some.1 hi
  exact⟨i,h1,hi,h2,h3⟩
def placed (t:Task):Prop:=(t.stage=2∨t.stage=5→0≤t.pos∧t.pos<t.puts.length)∧t.puts.Pairwise (fun x y=>x.cell<y.cell)∧0≤t.stage∧t.stage≤5
theorem holds_iff {t:Task}(h:placed t)(c:Int):holds t c=true ↔ ∃ x ∈ mustHold t,x.cell=c:=by
 obtain⟨hp,hs,h0,h5⟩:=h
 have key:∀ (l:List Put),(¬ findPut t.puts c<0→False)→l.Sublist t.puts→¬ ∃ x ∈ l,x.cell=c:=by
  intro l hn hsub ⟨x,hx,hc⟩
  rcases findPut_cases t.puts c with ⟨_,h2⟩ | ⟨i,hi,h2,_⟩
  ·exact h2 x (hsub.subset hx) hc
  ·exact hn (by omega)
 unfold holds mustHold
 by_cases hf:findPut t.puts c<0
 ·rw [if_pos hf]
  constructor
  ·intro h;cases h
  ·intro h
   exfalso
   revert h
   have hk:=fun l (hl:l.Sublist t.puts)=>key l (fun h=>h hf) hl
   split
   ·exact hk _ (List.take_sublist _ _)
   ·split
    ·exact hk _ (List.Sublist.refl _)
    ·split
     ·exact hk _ (List.drop_sublist _ _)
     ·rintro ⟨x,hx,_⟩;simp at hx
 ·rw [if_neg hf]
  rcases findPut_cases t.puts c with ⟨h1,_⟩ | ⟨i,hi,h1,hc,hlt⟩
  ·omega
  ·rw [h1]
   by_cases e2:t.stage=2
   ·rw [if_pos e2,if_pos e2]
    have:=hp (.inl e2)
    simp only [decide_eq_true_eq]
    constructor
    ·intro hip
     refine⟨t.puts[i],?_,hc⟩
     rw [List.mem_iff_getElem]
     exact⟨i,by rw [List.length_take];omega,by simp⟩
    ·rintro ⟨x,hx,hxc⟩
     obtain⟨j,hj,rfl⟩:=List.mem_iff_getElem.1 hx
     rw [List.length_take] at hj
     simp only [List.getElem_take] at hxc
     rcases Nat.lt_or_ge j i with h2 | h2
     ·exact absurd hxc (hlt j h2)
     ·omega
   ·rw [if_neg e2,if_neg e2]
    by_cases e3:t.stage=3∨t.stage=4
    ·rw [if_pos e3,if_pos e3]
     simp only [true_iff]
     exact⟨t.puts[i],List.getElem_mem hi,hc⟩
    ·rw [if_neg e3,if_neg e3]
     by_cases e5:t.stage=5
     ·rw [if_pos e5,if_pos e5]
      have:=hp (.inr e5)
      simp only [decide_eq_true_eq]
      constructor
      ·intro hip
       refine⟨t.puts[i],?_,hc⟩
       rw [List.mem_iff_getElem]
       exact⟨i-t.pos.toNat,by rw [List.length_drop];omega,by simp only [List.getElem_drop];congr 1;omega⟩
      ·rintro ⟨x,hx,hxc⟩
       obtain⟨j,hj,rfl⟩:=List.mem_iff_getElem.1 hx
       rw [List.length_drop] at hj
       simp only [List.getElem_drop] at hxc
       rcases Nat.lt_or_ge i (t.pos.toNat+j) with h2 | h2
       ·have:=List.pairwise_iff_getElem.1 hs i (t.pos.toNat+j) hi (by omega) h2
        omega
       ·omega
     ·rw [if_neg e5,if_neg e5]
      simp
/-! ### Who holds what -/
theorem getD_set_self (l:List Int)(i:Nat)(x d:Int)(h:i<l.length):(l.set i x).getD i d=x:=by simp [List.getD_eq_getElem?_getD,h]
theorem gdsn_ (l:List Int)(i j:Nat)(x d:Int)(h:i≠j):(l.set i x).getD j d=l.getD j d:=by simp [List.getD_eq_getElem?_getD,List.getElem?_set_ne h]
theorem holdAll_some (i:Int):∀ (ps:List Put)(h h':List Int),(∀ x ∈ ps,0≤x.cell∧x.cell<h.length)→ps.Pairwise (fun x y=>x.cell<y.cell)→holdAll h i ps=some h' →
  h'.length=h.length∧(∀ x ∈ ps,h.getD x.cell.toNat 0=-1)∧∀ c:Nat,c<h.length→((∃ x ∈ ps,x.cell=c)→h'.getD c 0=i)∧((∀ x ∈ ps,x.cell≠c)→h'.getD c 0=h.getD c 0):=by
 intro ps
 induction ps with
 | nil=>intro h h' _ _ e;simp [holdAll] at e;subst e;exact⟨rfl,by simp,fun c _=>⟨by simp,fun _=>rfl⟩⟩
 | cons x r ih =>
  intro h h' hr hp e
  unfold holdAll at e
  split at e
  ·cases e
  ·rename_i hx
   rw [Classical.not_not] at hx
   have hxr:=hr x (List.mem_cons_self ..)
   obtain⟨hp1,hp2⟩:=List.pairwise_cons.1 hp
   obtain⟨g1,g2,g3⟩:=ih (h.set x.cell.toNat i) h' (fun y hy=>by rw [List.length_set];exact hr y (List.mem_cons_of_mem _ hy)) hp2 e
   rw [List.length_set] at g1 g3
   refine⟨g1,fun y hy=>?_,fun c hc=>⟨?_,?_⟩⟩
   ·rcases List.mem_cons.1 hy with rfl | hy
    ·exact hx
    ·have h1:=g2 y hy
     have h2:=hp1 y hy
     have h3:=hr y (List.mem_cons_of_mem _ hy)
     rw [gdsn_ _ _ _ _ _ (by omega)] at h1
     exact h1
   ·rintro ⟨y,hy,hyc⟩
    rcases List.mem_cons.1 hy with rfl | hy
    ·rw [(g3 c hc).2 (fun z hz=>by have:=hp1 z hz;omega),show y.cell.toNat=c by omega]
     exact getD_set_self _ _ _ _ (by omega)
    ·exact(g3 c hc).1 ⟨y,hy,hyc⟩
   ·intro hn
    rw [(g3 c hc).2 (fun z hz=>hn z (List.mem_cons_of_mem _ hz))]
    have:=hn x (List.mem_cons_self ..)
    exact gdsn_ _ _ _ _ _ (by omega)
theorem holdAll_none (i:Int):∀ (ps:List Put)(h:List Int),(∀ x ∈ ps,0≤x.cell∧x.cell<h.length)→ps.Pairwise (fun x y=>x.cell<y.cell)→holdAll h i ps=none→∃ x ∈ ps,h.getD x.cell.toNat 0≠-1:=by
 intro ps
 induction ps with
 | nil=>intro h _ _ e;simp [holdAll] at e
 | cons x r ih =>
  intro h hr hp e
  unfold holdAll at e
  split at e
  ·rename_i hx;exact⟨x,List.mem_cons_self ..,hx⟩
  ·obtain⟨hp1,hp2⟩:=List.pairwise_cons.1 hp
   obtain⟨y,hy,hn⟩:=ih _ (fun y hy=>by rw [List.length_set];exact hr y (List.mem_cons_of_mem _ hy)) hp2 e
   refine⟨y,List.mem_cons_of_mem _ hy,?_⟩
   have h2:=hp1 y hy
   have h1:=hr x (List.mem_cons_self ..)
   rwa [gdsn_ _ _ _ _ _ (by omega)] at hn
def Rep (s:Sys) (h:List Int) (i:Nat):Prop :=
 h.length=s.cells.length∧∀ c:Nat,c<h.length→(h.getD c 0=-1∧∀ k,k<i→¬ ∃ x ∈ mustHold (s.t k),x.cell=c) ∨
  ∃ k,k<i∧h.getD c 0=(k:Int)∧(∃ x ∈ mustHold (s.t k),x.cell=c)∧∀ k',k'<i→(∃ x ∈ mustHold (s.t k'),x.cell=c)→k'=k
def Placed (s:Sys):Prop:=∀ k,k<s.tasks.length→placed (s.t k)∧∀ x ∈ (s.t k).puts,0≤x.cell∧x.cell<s.cells.length
theorem mustHold_sub (t:Task):(mustHold t).Sublist t.puts:=by
 unfold mustHold
 split
 ·exact List.take_sublist _ _
 ·split
  ·exact List.Sublist.refl _
  ·split
   ·exact List.drop_sublist _ _
   ·exact List.nil_sublist _
theorem holdTasks_rep {s:Sys}(hP:Placed s):∀ (n i:Nat)(h:List Int),i+n=s.tasks.length→Rep s h i →
  (∃ h',holdTasks h i (s.tasks.drop i)=some h'∧Rep s h' s.tasks.length)∨(holdTasks h i (s.tasks.drop i)=none∧∃ (c k k':Nat),c<s.cells.length∧k<s.tasks.length∧k'<s.tasks.length∧k≠k'∧(∃ x ∈ mustHold (s.t k),x.cell=c)∧∃ x ∈ mustHold (s.t k'),x.cell=c):=by
 intro n
 induction n with
 | zero =>
  intro i h hi hR
  rw [List.drop_of_length_le (by omega)]
  exact .inl ⟨h,rfl,by rw [show s.tasks.length=i by omega];exact hR⟩
 | succ n ih =>
  intro i h hi hR
  have hlt:i<s.tasks.length:=by omega
  have e:s.tasks.drop i=s.t i :: s.tasks.drop (i+1):=by rw [List.drop_eq_getElem_cons hlt,sys_t hlt]
  rw [e]
  unfold holdTasks
  obtain⟨hpl,hin⟩:=hP i hlt
  have hsub:=mustHold_sub (s.t i)
  have hr:∀ x ∈ mustHold (s.t i),0≤x.cell∧x.cell<h.length:=fun x hx=>by rw [hR.1];exact hin x (hsub.subset hx)
  have hpw:(mustHold (s.t i)).Pairwise (fun x y=>x.cell<y.cell):=hpl.2.1.sublist hsub
  cases hh:holdAll h i (mustHold (s.t i)) with
  | none =>
   right
   obtain⟨x,hx,hn⟩:=holdAll_none _ _ _ hr hpw hh
   have hxr:=hr x hx
   refine⟨rfl,?_⟩
   rcases hR.2 x.cell.toNat (by omega) with ⟨h1,_⟩ | ⟨k,hk,_,hk2,_⟩
   ·exact absurd h1 hn
   ·exact⟨x.cell.toNat,k,i,by rw [← hR.1];omega,by omega,hlt,by omega,hk2,x,hx,by omega⟩
  | some h' =>
   obtain⟨g1,g2,g3⟩:=holdAll_some _ _ _ _ hr hpw hh
   refine ih (i+1) h' (by omega) ⟨g1.trans hR.1,fun c hc=>?_⟩
   rw [g1] at hc
   rcases Classical.em (∃ x ∈ mustHold (s.t i),x.cell=c) with hx | hx
   ·right
    refine⟨i,by omega,(g3 c hc).1 hx,hx,fun k' hk' hx'=>?_⟩
    rcases Nat.lt_or_ge k' i with h1 | h1
    ·exfalso
     obtain⟨x,hxm,hxc⟩:=hx
     have hm1:=g2 x hxm
     rw [show x.cell.toNat=c by omega] at hm1
     rcases hR.2 c hc with ⟨_,h3⟩ | ⟨k,_,h4,_⟩
     ·exact h3 k' h1 hx'
     ·omega
    ·omega
   ·have hnx:∀ x ∈ mustHold (s.t i),x.cell≠c:=fun x hxm hxc=>hx ⟨x,hxm,hxc⟩
    rw [(g3 c hc).2 hnx]
    rcases hR.2 c hc with ⟨h2,h3⟩ | ⟨k,hk,h4,h5,h6⟩
    ·exact .inl ⟨h2,fun k hk=>by
      rcases Nat.lt_or_ge k i with h1 | h1
      ·exact h3 k h1
      ·rw [show k=i by omega];exact hx⟩
    ·refine .inr ⟨k,by omega,h4,h5,fun k' hk' hx'=>?_⟩
     rcases Nat.lt_or_ge k' i with h1 | h1
     ·exact h6 k' h1 hx'
     ·rw [show k'=i by omega] at hx';exact absurd hx' hx
theorem locks_eq {s:Sys}(hP:Placed s):locksOkI s=true ↔ ∀ i,i<s.cells.length→-1≤(s.c i).lock∧(s.c i).lock≤(s.tasks.length:Int)-1∧∀ k,k<s.tasks.length→holds (s.t k) i=decide ((s.c i).lock=k):=by
 have hR0:Rep s (List.replicate s.cells.length (-1)) 0:=⟨by simp,fun c hc=>.inl ⟨by simp at hc;simp [List.getD_eq_getElem?_getD,hc],fun k hk=>by omega⟩⟩
 have hd:∀ k,k<s.tasks.length→∀ c,(holds (s.t k) c=true ↔ ∃ x ∈ mustHold (s.t k),x.cell=c):=fun k hk c=>holds_iff (hP k hk).1 c
 unfold locksOkI
 have:=holdTasks_rep hP s.tasks.length 0 _ (by omega) hR0
 rw [List.drop_zero] at this
 rcases this with ⟨h,e,hR⟩ | ⟨e,c,k,k',hc,hk,hk',hne,hx,hx'⟩
 ·rw [e]
  dsimp only
  rw [List.all_eq_true]
  constructor
  ·intro ha i hi
   have h1:=ha i (List.mem_range.2 hi)
   simp only [decide_eq_true_eq] at h1
   rw [h1]
   rcases hR.2 i (by rw [hR.1];exact hi) with ⟨h2,h3⟩ | ⟨k,hk,h4,h5,h6⟩
   ·refine⟨by omega,by omega,fun k hk=>?_⟩
    rw [h2,Bool.eq_iff_iff,hd k hk,decide_eq_true_eq]
    exact⟨fun hx=>absurd hx (h3 k hk),fun hx=>by omega⟩
   ·refine⟨by omega,by omega,fun k' hk'=>?_⟩
    rw [h4,Bool.eq_iff_iff,hd k' hk',decide_eq_true_eq]
    exact⟨fun hx=>by rw [h6 k' hk' hx],fun hx=>by rw [show k'=k by omega];exact h5⟩
  ·intro ha i hi
   have hi:=List.mem_range.1 hi
   obtain⟨l1,l2,h1⟩:=ha i hi
   simp only [decide_eq_true_eq]
   rcases hR.2 i (by rw [hR.1];exact hi) with ⟨h2,h3⟩ | ⟨k,hk,h4,h5,h6⟩
   ·rw [h2]
    rcases Int.lt_or_le (s.c i).lock 0 with h0 | h0
    ·omega
    ·exfalso
     have:=h1 (s.c i).lock.toNat (by omega)
     rw [decide_eq_true (by omega)] at this
     exact h3 _ (by omega) ((hd _ (by omega) _).1 this)
   ·rw [h4]
    have:=h1 k hk
    rw [(hd k hk _).2 h5] at this
    have:=this.symm
    simpa using this
 ·rw [e]
  constructor
  ·intro h;cases h
  ·intro ha
   exfalso
   obtain⟨_,_,h1⟩:=ha c hc
   have a1:=h1 k hk
   have a2:=h1 k' hk'
   rw [(hd k hk _).2 hx] at a1
   rw [(hd k' hk' _).2 hx'] at a2
   have a1:=of_decide_eq_true a1.symm
   have a2:=of_decide_eq_true a2.symm
   omega
/-! ### Those that were begun -/
theorem tasks_map (s:Sys):s.tasks=(List.range s.tasks.length).map s.t:=by
 apply List.ext_getElem (by simp)
 intro i h1 h2
 simp only [List.getElem_map,List.getElem_range]
 exact(sys_t h1).symm
theorem kidsOf_eq (s:Sys)(k way:Int):kidsOf s k way=(((List.range s.tasks.length).filter fun i=>decide ((s.t i).up=k) && decide ((s.t i).way=way)).length:Nat):=by
 unfold kidsOf
 conv=>lhs;rw [tasks_map s]
 rw [List.filter_map,List.length_map]
 rfl
theorem count4 (f:Nat→Bool)(g:Nat→Int):∀ (l:List Nat),(∀ i ∈ l,0≤g i∧g i≤4) →
  ((l.filter fun i=>f i && decide (g i=0)).length:Int)+(l.filter fun i=>f i && decide (g i=1)).length+(l.filter fun i=>f i && decide (g i=2)).length+(l.filter fun i=>f i && decide (g i=3)).length=((l.filter f).filter fun i=>decide (g i≠4)).length:=by
 intro l
 induction l with
 | nil=>intro _;simp
 | cons a r ih =>
  intro h
  have ha:=h a (List.mem_cons_self ..)
  have ih:=ih fun i hi=>h i (List.mem_cons_of_mem _ hi)
  cases hf:f a with
  | false=>simp only [List.filter_cons,hf,Bool.false_and,Bool.false_eq_true,if_false];exact ih
  | true =>
   have hg:g a=0∨g a=1∨g a=2∨g a=3∨g a=4:=by omega
   rcases hg with e | e | e | e | e<;>simp [List.filter_cons,hf,e] at ih ⊢<;>omega
theorem kidsI_eq {s:Sys}(hup:∀ i,i<s.tasks.length→upOk s i=true)(k:Nat):kidsI s k=kidList s k:=by
 unfold kidsI kidList
 refine List.filter_congr fun i hi=>?_
 have hi:=List.mem_range.1 hi
 have h:=hup i hi
 unfold upOk at h
 split at h
 ·rename_i h0
  simp only [decide_eq_true_eq] at h
  rw [h]
  have:¬ (-1:Int)=(k:Int):=by omega
  simp [this]
 ·simp only [Bool.and_eq_true,inR,decide_eq_true_eq] at h
  rw [Bool.eq_iff_iff]
  simp only [Bool.and_eq_true,decide_eq_true_eq]
  exact⟨fun h=>h.2,fun e=>⟨by omega,e⟩⟩
theorem kids_count {s:Sys}(hw:∀ i,i<s.tasks.length→0≤(s.t i).way∧(s.t i).way≤4)(k:Nat) :
  kidsOf s k 0+kidsOf s k 1+kidsOf s k 2+kidsOf s k 3=((kidList s k).filter fun i=>decide ((s.t i).way≠4)).length:=by
 simp only [kidsOf_eq]
 exact count4 (fun i=>decide ((s.t i).up=k)) (fun i=>(s.t i).way) (List.range s.tasks.length) fun i hi=>hw i (List.mem_range.1 hi)
/-! ### All is the same -/
theorem taskOk_iff (p:Prog)(s:Sys)(i:Nat):taskOk p s i=true ↔
  (formOkI p s (s.t i)=true∧stageOkI p s (s.t i)=true∧((s.t i).way=1→p.there (s.t i)=true∧(p.act (s.t i)).kind=2)∧((s.t i).way=2→p.there (s.t i)=false))∧upOk s i=true ∧
   ((s.t i).way=1→((p.act (s.t i)).kids.length:Int)≤kidsOf s i 0+kidsOf s i 1+kidsOf s i 2+kidsOf s i 3):=by
 rw [task_stage]
 unfold taskOk actStand
 dsimp only
 simp only [Bool.and_eq_true,Bool.or_eq_true,decide_eq_true_eq]
 constructor
 ·rintro ⟨⟨⟨⟨⟨⟨⟨⟨⟨⟨⟨⟨h1,h2⟩,h3⟩,h4⟩,h5⟩,h6⟩,h7⟩,h8⟩,h9⟩,h10⟩,h11⟩,h12⟩,h13⟩
  refine⟨⟨h1,h2,h3,h4,h5,h6,h7,h8,h9,h10,h11,?_,?_,?_⟩,h12,?_⟩
  ·intro hw;rw [if_pos hw] at h13;simpa [and_assoc] using h13
  ·intro hw;rw [if_neg (by omega),if_pos hw] at h13;simp at h13;exact h13.1
  ·intro hw;rw [if_neg (by omega),if_neg (by omega),if_pos hw] at h13;simpa using h13
  ·intro hw;rw [if_neg (by omega),if_pos hw] at h13;simp at h13;exact h13.2
 ·rintro ⟨⟨h1,h2,h3,h4,h5,h6,h7,h8,h9,h10,h11,h12,h13,h14⟩,h15,h16⟩
  refine⟨⟨⟨⟨⟨⟨⟨⟨⟨⟨⟨⟨h1,h2⟩,h3⟩,h4⟩,h5⟩,h6⟩,h7⟩,h8⟩,h9⟩,h10⟩,h11⟩,h15⟩,?_⟩
  split
  ·rename_i hw;have:=h12 hw;simpa [and_assoc] using this
  ·split
   ·rename_i hw;have:=h13 hw;have h17:=h16 hw;simp;exact⟨this,h17⟩
   ·split
    ·rename_i hw;simpa using h14 hw
    ·rfl
theorem placed_of {p:Prog}{s:Sys}{t:Task}(hf:formOkI p s t=true)(hs:stageOkI p s t=true):placed t∧∀ x ∈ t.puts,0≤x.cell∧x.cell<s.cells.length:=by
 simp only [formOkI,Bool.and_eq_true] at hf
 have hp:=hf.2
 have hst:0≤t.stage∧t.stage≤5∧(t.stage=2∨t.stage=5→0≤t.pos∧t.pos<t.puts.length):=by
  unfold stageOkI at hs
  by_cases e0:t.stage=0
  ·omega
  ·rw [if_neg e0] at hs
   split at hs
   ·by_cases e1:t.stage=1
    ·omega
    ·by_cases e2:t.stage=2
     ·simp [e2,inR] at hs;omega
     ·by_cases e3:t.stage=3
      ·omega
      ·by_cases e4:t.stage=4
       ·omega
       ·by_cases e5:t.stage=5
        ·simp [e5,inR] at hs;omega
        ·simp [e1,e2,e3,e4,e5] at hs
   ·cases hs
 exact⟨⟨hst.2.2,putsOk_sorted hp,hst.1,hst.2.1⟩,fun x hx=>by have:=putsOk_mem hp hx;omega⟩
theorem allRange {n:Nat}{f:Nat→Bool}:(List.range n).all f=true ↔ ∀ i,i<n→f i=true:=by simp [List.all_eq_true]
theorem allTasks {s:Sys}{f:Task→Bool}:s.tasks.all f=true ↔ ∀ i,i<s.tasks.length→f (s.t i)=true:=by
 rw [List.all_eq_true]
 constructor
 ·intro h i hi;rw [sys_t hi];exact h _ (List.getElem_mem hi)
 ·intro h t ht
  obtain⟨i,hi,rfl⟩:=List.mem_iff_getElem.1 ht
  rw [← sys_t hi];exact h i hi
theorem allCells {s:Sys}{f:Cell→Bool}:s.cells.all f=true ↔ ∀ i:Nat,i<s.cells.length→f (s.c i)=true:=by
 rw [List.all_eq_true]
 constructor
 ·intro h i hi;rw [sys_c hi];exact h _ (List.getElem_mem hi)
 ·intro h t ht
  obtain⟨i,hi,rfl⟩:=List.mem_iff_getElem.1 ht
  rw [← sys_c hi];exact h i hi
theorem sysOkI_eq (p:Prog)(s:Sys):sysOkI p s=sysOk p s:=by
 rw [Bool.eq_iff_iff]
 unfold sysOkI sysOk
 simp only [Bool.and_eq_true,decide_eq_true_eq,logOkI_eq,allRange,allTasks,cellsOkI,allCells,cellsOk,cellOk]
 have hway:(∀ i,i<s.tasks.length→formOkI p s (s.t i)=true)→∀ i,i<s.tasks.length→0≤(s.t i).way∧(s.t i).way≤4:=by
  intro h i hi
  have:=h i hi
  simp only [formOkI,Bool.and_eq_true,inR,decide_eq_true_eq] at this
  omega
 have hwk:(∀ i,i<s.tasks.length→formOkI p s (s.t i)=true)→(∀ i,i<s.tasks.length→upOk s i=true)→∀ i,i<s.tasks.length→(wayOkI p s i=true ↔ (((s.t i).way=1→p.there (s.t i)=true∧(p.act (s.t i)).kind=2)∧((s.t i).way=2→p.there (s.t i)=false)∧((s.t i).way=1→((p.act (s.t i)).kids.length:Int)≤kidsOf s i 0+kidsOf s i 1+kidsOf s i 2+kidsOf s i 3))):=by
  intro hf hu i hi
  rw [kids_count (hway hf) i]
  unfold wayOkI
  rw [kidsI_eq hu i]
  dsimp only
  by_cases h1:(s.t i).way=1
  ·simp [h1,and_assoc]
  ·by_cases h2:(s.t i).way=2
   ·simp [h2]
   ·simp [h1,h2]
 constructor
 ·rintro ⟨⟨⟨⟨⟨⟨⟨⟨h1,h2⟩,h3⟩,h4⟩,h5⟩,h6⟩,h7⟩,h8⟩,h9⟩
  have hf:=fun i hi=>(h6 i hi).1
  have hu:=fun i hi=>(h7 i hi).1
  have hP:Placed s:=fun k hk=>placed_of (h6 k hk).1 (h6 k hk).2
  have hL:=(locks_eq hP).1 h8
  refine⟨⟨⟨⟨⟨⟨h1,h2⟩,h5⟩,h3⟩,fun i hi=>?_⟩,fun i hi=>?_⟩,h9⟩
  ·have hw:=(hwk hf hu i hi).1 (h7 i hi).2
   exact(taskOk_iff p s i).2 ⟨⟨(h6 i hi).1,(h6 i hi).2,hw.1,hw.2.1⟩,hu i hi,hw.2.2⟩
  ·obtain⟨l1,l2,l3⟩:=hL i hi
   refine⟨⟨(h4 i hi),?_⟩,fun k hk=>l3 k hk⟩
   simp only [inR,Bool.and_eq_true,decide_eq_true_eq]
   omega
 ·rintro ⟨⟨⟨⟨⟨⟨h1,h2⟩,h5⟩,h3⟩,h6⟩,h7⟩,h9⟩
  have ht:=fun i hi=>(taskOk_iff p s i).1 (h6 i hi)
  have hf:=fun i hi=>(ht i hi).1.1
  have hu:=fun i hi=>(ht i hi).2.1
  have hP:Placed s:=fun k hk=>placed_of (ht k hk).1.1 (ht k hk).1.2.1
  refine⟨⟨⟨⟨⟨⟨⟨⟨h1,h2⟩,h3⟩,fun i hi=>(h7 i hi).1.1⟩,h5⟩,fun i hi=>⟨(ht i hi).1.1,(ht i hi).1.2.1⟩⟩,fun i hi=>⟨hu i hi,(hwk hf hu i hi).2 ⟨(ht i hi).1.2.2.1,(ht i hi).1.2.2.2,(ht i hi).2.2⟩⟩⟩,(locks_eq hP).2 fun i hi=>?_⟩,h9⟩
  have:=(h7 i hi).1.2
  simp only [inR,Bool.and_eq_true,decide_eq_true_eq] at this
  exact⟨by omega,by omega,(h7 i hi).2⟩
end Go.Proofs.YtjacjafmimgfcaaGreat
namespace Go.Proofs.YtjacjafmimgfcaaGreat
structure TInv (p:Prog) (nc:Nat) (clock:Int) (logs:Nat) (t:Task):Prop where
 body:0≤t.body∧t.body<p.bodies.length
 pc:0≤t.pc∧t.pc≤(p.acts t.body).length
 way:0≤t.way∧t.way≤4
 stage:0≤t.stage∧t.stage≤5
 runs:t.stage≠0→t.way=0∧t.pc<(p.acts t.body).length∧(p.act t).kind=1
 regs:numsOk t.regs=true∧t.regs.length=3
 old:numsOk t.old=true∧t.old.length=3
 reads:putsOk t.reads nc=true
 puts:putsOk t.puts nc=true
 s0:t.stage=0→t.pos=0∧t.reads=[]∧t.puts=[]∧0≤t.whn∧t.whn≤clock+1
 s1:t.stage=1→0≤t.pos∧t.pos≤(p.act t).deeds.length∧t.whn=0
 s2:t.stage=2→0≤t.pos∧t.pos<t.puts.length∧t.whn=0
 s3:t.stage=3→t.pos=0∧0<t.puts.length∧t.whn=0
 s4:t.stage=4→0≤t.pos∧t.pos≤t.reads.length∧0<t.puts.length∧t.since<t.whn∧t.whn≤clock
 s5:t.stage=5→0≤t.pos∧t.pos<t.puts.length∧t.since<t.whn∧t.whn≤clock
 since:0≤t.since∧t.since≤clock
 frm:0≤t.frm∧t.frm≤logs
 forks:t.way=1→t.pc<(p.acts t.body).length∧(p.act t).kind=2
 ended:t.way=2→t.pc=(p.acts t.body).length
theorem regsOk_iff {l:List Int}:regsOk l=true ↔ numsOk l=true∧l.length=3:=by
 unfold regsOk;simp only [Bool.and_eq_true,decide_eq_true_eq];exact⟨fun h=>⟨h.1,by omega⟩,fun h=>⟨h.1,by omega⟩⟩
theorem tinv_iff (p:Prog)(s:Sys)(t:Task) :
  (formOkI p s t=true∧stageOkI p s t=true∧(t.way=1→p.there t=true∧(p.act t).kind=2)∧(t.way=2→p.there t=false)) ↔ TInv p s.cells.length s.clock s.log.length t:=by
 rw [task_stage]
 simp only [timesOk,posOk,inR,Bool.and_eq_true,decide_eq_true_eq,regsOk_iff,there_iff]
 constructor
 ·rintro ⟨g1,g2,g3,g4,g5,g6,g7,g8,g9,g10,g11,g12,g13,g14⟩
  have hz:t.stage=0→t.reads=[]∧t.puts=[]:=fun e=>by
   have:=g10.resolve_left (fun h=>h e)
   exact⟨List.eq_nil_of_length_eq_zero (by omega),List.eq_nil_of_length_eq_zero (by omega)⟩
  have hr:t.stage≠0→t.way=0:=fun e=>by omega
  have hx:=fun e:t.stage≠0=>(g12 (hr e)).resolve_left e
  refine⟨by omega,by omega,by omega,by omega,fun e=>⟨hr e,(hx e).1,(hx e).2.1⟩,g6,g7,g8,g9,fun e=>?_,fun e=>?_,fun e=>?_,fun e=>?_,fun e=>?_,fun e=>?_,by omega,by omega,g13,g14⟩
  ·simp [e] at g11;have:=hz e;have:=g10.resolve_left (fun h=>h e);exact⟨by omega,hz e |>.1,hz e |>.2,by omega,by omega⟩
  ·have h1:=(hx (by omega)).2.2;simp [e] at h1 g11;omega
  ·have h1:=(hx (by omega)).2.2;simp [e] at h1 g11;omega
  ·have h1:=(hx (by omega)).2.2;simp [e] at h1 g11;omega
  ·have h1:=(hx (by omega)).2.2;simp [e] at h1 g11;omega
  ·have h1:=(hx (by omega)).2.2;simp [e] at h1 g11;omega
 ·intro h
  obtain⟨hb,hpc,hw,hs,hru,hre,hol,hrd,hpu,s0,s1,s2,s3,s4,s5,hsi,hfr,hfo,hen⟩:=h
  refine⟨by omega,by omega,by omega,by omega,?_,hre,hol,hrd,hpu,?_,?_,?_,hfo,hen⟩
  ·by_cases e:t.stage=0
   ·exact .inr e
   ·exact .inl (hru e).1
  ·by_cases e:t.stage=0
   ·have:=s0 e;right;simp [this]
   ·exact .inl e
  ·refine⟨⟨by omega,by omega⟩,?_⟩
   by_cases e0:t.stage=0
   ·have:=s0 e0;simp [e0];omega
   ·have hc:t.stage=1∨t.stage=2∨t.stage=3∨t.stage=4∨t.stage=5:=by omega
    rcases hc with e | e | e | e | e
    ·have:=s1 e;simp [e];omega
    ·have:=s2 e;simp [e];omega
    ·have:=s3 e;simp [e];omega
    ·have:=s4 e;simp [e];omega
    ·have:=s5 e;simp [e];omega
  ·intro _
   by_cases e0:t.stage=0
   ·exact .inl e0
   ·refine .inr ⟨(hru e0).2.1,(hru e0).2.2,?_⟩
    have hc:t.stage=1∨t.stage=2∨t.stage=3∨t.stage=4∨t.stage=5:=by omega
    rcases hc with e | e | e | e | e
    ·have:=s1 e;simp [e];omega
    ·have:=s2 e;simp [e];omega
    ·have:=s3 e;simp [e];omega
    ·have:=s4 e;simp [e];omega
    ·have:=s5 e;simp [e];omega
def Hd (t:Task) (c:Int):Prop:=∃ x ∈ mustHold t,x.cell=c
structure EInv (p:Prog) (s:Sys) (e:Entry) (i:Nat):Prop where
 task:0≤e.task∧e.task<s.tasks.length
 act:0≤e.act∧e.act<(p.acts (s.t e.task.toNat).body).length
 whn:0≤e.whn∧e.whn≤s.clock
 frm:0≤e.frm∧e.frm≤i
 reads:putsOk e.reads s.cells.length=true
 puts:putsOk e.puts s.cells.length=true
structure SInv (p:Prog) (s:Sys):Prop where
 prog:progOk p=true
 cl:s.cells.length=p.cells.length
 clock:0≤s.clock∧s.clock≤200
 n1:1≤s.tasks.length
 t:∀ k,k<s.tasks.length→TInv p s.cells.length s.clock s.log.length (s.t k)
 up0:(s.t 0).up=-1
 up:∀ k,0<k→k<s.tasks.length→0≤(s.t k).up∧(s.t k).up<k
 cell:∀ i:Nat,i<s.cells.length→0≤(s.c i).num∧(s.c i).num≤99∧0≤(s.c i).time∧(s.c i).time≤s.clock∧-1≤(s.c i).lock∧(s.c i).lock<s.tasks.length
 held:∀ i:Nat,i<s.cells.length→∀ k:Nat,k<s.tasks.length→(Hd (s.t k) i ↔ (s.c i).lock=k)
 log:∀ (i:Nat) (h:i<s.log.length),EInv p s s.log[i] i
structure WInv (p:Prog) (s:Sys):Prop where
 live:∀ k,0<k→k<s.tasks.length→isLive (s.t k)=true→(s.t (s.t k).up.toNat).way=1
 waits:∀ k,k<s.tasks.length→(s.t k).way=1→(p.act (s.t k)).kids.length≤((kidList s k).filter fun i=>decide ((s.t i).way≠4)).length
theorem TInv.placed {p:Prog}{nc:Nat}{clock:Int}{logs:Nat}{t:Task}(h:TInv p nc clock logs t):placed t∧∀ x ∈ t.puts,0≤x.cell∧x.cell<nc :=
 ⟨⟨fun e=>by rcases e with e | e;have:=h.s2 e;omega;have:=h.s5 e;omega,putsOk_sorted h.puts,h.stage.1,h.stage.2⟩,fun x hx=>by have:=putsOk_mem h.puts hx;omega⟩
theorem entryOk_iff {p:Prog}{s:Sys}{e:Entry}{i:Nat}:entryOk p s e i=true ↔ EInv p s e i:=by
 unfold entryOk
 simp only [inR,Bool.and_eq_true,decide_eq_true_eq]
 constructor
 ·rintro ⟨⟨⟨⟨⟨h1,h2⟩,h3⟩,h4⟩,h5⟩,h6⟩
  exact⟨by omega,by omega,by omega,by omega,h4,h5⟩
 ·rintro ⟨h1,h2,h3,h4,h5,h6⟩
  exact⟨⟨⟨⟨⟨⟨by omega,by omega⟩,⟨by omega,by omega⟩⟩,⟨by omega,by omega⟩⟩,h5⟩,h6⟩,⟨by omega,by omega⟩⟩
theorem upOk_iff {s:Sys}{i:Nat}:upOk s i=true ↔ (i=0→(s.t i).up=-1)∧(0<i→0≤(s.t i).up∧(s.t i).up<i∧(isLive (s.t i)=true→(s.t (s.t i).up.toNat).way=1)):=by
 unfold upOk
 by_cases h:i=0
 ·rw [if_pos h];simp [h]
 ·rw [if_neg h]
  simp only [inR,Bool.and_eq_true,Bool.or_eq_true,decide_eq_true_eq,Bool.not_eq_true']
  constructor
  ·rintro ⟨h1,h2⟩
   refine⟨fun e=>absurd e h,fun _=>⟨by omega,by omega,fun hl=>?_⟩⟩
   rcases h2 with h2 | h2
   ·rw [h2] at hl;cases hl
   ·exact h2
  ·rintro ⟨_,h1⟩
   have:=h1 (by omega)
   refine⟨by omega,?_⟩
   cases hl:isLive (s.t i) with
   | false=>exact .inl rfl
   | true=>exact .inr (this.2.2 hl)
theorem sysOk_iff {p:Prog}{s:Sys}:sysOk p s=true ↔ SInv p s∧WInv p s∧s.tasks.length≤7:=by
 unfold sysOk
 simp only [Bool.and_eq_true,decide_eq_true_eq,allRange,cellsOk,cellOk,logOk]
 constructor
 ·rintro ⟨⟨⟨⟨⟨⟨h1,h2⟩,h3⟩,h4⟩,h5⟩,h6⟩,h7⟩
  have ht:=fun i hi=>(taskOk_iff p s i).1 (h5 i hi)
  have hT:=fun i hi=>(tinv_iff p s (s.t i)).1 (ht i hi).1
  have hu:=fun i hi=>upOk_iff.1 (ht i hi).2.1
  simp only [inR,Bool.and_eq_true,decide_eq_true_eq] at h3 h4 h6
  have hk:=kids_count (s:=s) (fun i hi=>(hT i hi).way)
  refine⟨⟨h1,by omega,h4,by omega,hT,(hu 0 (by omega)).1 rfl,fun k h0 hk=>⟨((hu k hk).2 h0).1,((hu k hk).2 h0).2.1⟩,fun i hi=>?_,fun i hi k hk=>?_,fun i hi=>?_⟩,⟨fun k h0 hk hl=>((hu k hk).2 h0).2.2 hl,fun k hk' hw=>?_⟩,by omega⟩
  ·have:=(h6 i hi).1;omega
  ·rw [← decide_eq_true_eq (p:=(s.c i).lock=k),← (h6 i hi).2 k hk]
   exact(holds_iff (hT k hk).placed.1 i).symm
  ·have:=h7 i hi
   rw [List.getD_eq_getElem?_getD,List.getElem?_eq_getElem hi,Option.getD_some] at this
   exact entryOk_iff.1 this
  ·have:=(ht k hk').2.2 hw
   rw [hk k] at this
   omega
 ·rintro ⟨h,hw,h7⟩
  have hk:=kids_count (s:=s) (fun i hi=>(h.t i hi).way)
  have hcl:=h.cl
  have hn:=h.n1
  refine⟨⟨⟨⟨⟨⟨h.prog,by omega⟩,?_⟩,?_⟩,fun i hi=>?_⟩,fun i hi=>?_⟩,fun i hi=>?_⟩
  ·simp only [inR,Bool.and_eq_true,decide_eq_true_eq];omega
  ·simp only [inR,Bool.and_eq_true,decide_eq_true_eq];exact h.clock
  ·refine(taskOk_iff p s i).2 ⟨(tinv_iff p s (s.t i)).2 (h.t i hi),upOk_iff.2 ⟨fun e=>by rw [e];exact h.up0,fun h0=>⟨(h.up i h0 hi).1,(h.up i h0 hi).2,hw.live i h0 hi⟩⟩,fun hw'=>?_⟩
   rw [hk i]
   have:=hw.waits i hi hw'
   omega
  ·have hc:=h.cell i hi
   simp only [inR,Bool.and_eq_true,decide_eq_true_eq]
   refine⟨⟨⟨⟨by omega,by omega⟩,⟨by omega,by omega⟩⟩,⟨by omega,by omega⟩⟩,fun k hk=>?_⟩
   rw [Bool.eq_iff_iff,holds_iff (h.t k hk).placed.1 i,decide_eq_true_eq]
   exact h.held i hi k hk
  ·rw [List.getD_eq_getElem?_getD,List.getElem?_eq_getElem hi,Option.getD_some]
   exact entryOk_iff.2 (h.log i hi)
/-! ### One task is set -/
theorem t_set {s:Sys}{k:Nat}{t':Task}{cells':List Cell}{clock':Int}{log':List Entry}(hk:k<s.tasks.length)(j:Nat) :
  (Sys.mk cells' (s.tasks.set k t') clock' log').t j=if j=k then t' else s.t j:=by
 unfold Sys.t
 simp only [List.getD_eq_getElem?_getD]
 by_cases e:j=k
 ·subst e;simp [hk]
 ·rw [if_neg e,List.getElem?_set_ne (by omega)]
theorem TInv.mono {p:Prog}{nc:Nat}{c c':Int}{l l':Nat}{t:Task}(h:TInv p nc c l t)(hc:c≤c')(hl:l≤l'):TInv p nc c' l' t :=
 ⟨h.body,h.pc,h.way,h.stage,h.runs,h.regs,h.old,h.reads,h.puts,fun e=>by have:=h.s0 e;exact⟨this.1,this.2.1,this.2.2.1,this.2.2.2.1,by omega⟩,h.s1,h.s2,h.s3,fun e=>by have:=h.s4 e;omega,fun e=>by have:=h.s5 e;omega,by have:=h.since;omega,by have:=h.frm;omega,h.forks,h.ended⟩
theorem SInv.set {p:Prog}{s:Sys}{k:Nat}(h:SInv p s)(hk:k<s.tasks.length){t':Task}{cells':List Cell}{clock':Int}{log':List Entry}
  (hb:t'.body=(s.t k).body) (hu:t'.up=(s.t k).up) (hcl:cells'.length=s.cells.length) (hck:s.clock≤clock') (hck2:clock'≤200) (hll:s.log.length≤log'.length) (ht:TInv p s.cells.length clock' log'.length t')
  (hcell:∀ i:Nat,i<s.cells.length→0≤(cells'.getD i noCell).num∧(cells'.getD i noCell).num≤99∧0≤(cells'.getD i noCell).time∧(cells'.getD i noCell).time≤clock'∧-1≤(cells'.getD i noCell).lock∧(cells'.getD i noCell).lock<s.tasks.length)
  (hheld:∀ i:Nat,i<s.cells.length→(∀ j:Nat,j≠k→((s.c i).lock=j ↔ (cells'.getD i noCell).lock=j))∧(Hd t' i ↔ (cells'.getD i noCell).lock=k))
  (hlog:log'=s.log∨∃ e:Entry,log'=s.log ++ [e]∧e.task=k∧0≤e.act∧e.act<(p.acts (s.t k).body).length∧0≤e.whn∧e.whn≤clock'∧0≤e.frm∧e.frm≤s.log.length∧putsOk e.reads s.cells.length=true∧putsOk e.puts s.cells.length=true) :
  SInv p ⟨cells',s.tasks.set k t',clock',log'⟩:=by
 have hT:∀ j,(Sys.mk cells' (s.tasks.set k t') clock' log').t j=if j=k then t' else s.t j:=fun j=>t_set hk j
 have hn:(Sys.mk cells' (s.tasks.set k t') clock' log').tasks.length=s.tasks.length:=List.length_set
 have hBody:∀ j,((Sys.mk cells' (s.tasks.set k t') clock' log').t j).body=(s.t j).body:=fun j=>by rw [hT];split<;>first | (rename_i e;rw [e,hb];done) | rfl
 have hUp:∀ j,((Sys.mk cells' (s.tasks.set k t') clock' log').t j).up=(s.t j).up:=fun j=>by rw [hT];split<;>first | (rename_i e;rw [e,hu];done) | rfl
 have hC:∀ i:Nat,(Sys.mk cells' (s.tasks.set k t') clock' log').c i=cells'.getD i noCell:=fun i=>by unfold Sys.c;simp
 have hE:∀ (e:Entry) (i:Nat),EInv p s e i→EInv p ⟨cells',s.tasks.set k t',clock',log'⟩ e i:=fun e i he =>
  ⟨by rw [hn];exact he.task,by rw [hBody];exact he.act,by have:=he.whn;dsimp only;omega,he.frm,by dsimp only;rw [hcl];exact he.reads,by dsimp only;rw [hcl];exact he.puts⟩
 refine⟨h.prog,by dsimp only;rw [hcl];exact h.cl,by have:=h.clock;dsimp only;omega,by rw [hn];exact h.n1,fun j hj=>?_,by rw [hUp];exact h.up0,fun j h0 hj=>by rw [hUp];exact h.up j h0 (by rw [← hn];exact hj),fun i hi=>?_,fun i hi j hj=>?_,fun i hi=>?_⟩
 ·rw [hn] at hj
  rw [hT]
  dsimp only
  rw [hcl]
  split
  ·exact ht
  ·exact(h.t j hj).mono hck hll
 ·rw [hC,hn]
  dsimp only at hi
  rw [hcl] at hi
  exact hcell i hi
 ·dsimp only at hi
  rw [hcl] at hi
  rw [hn] at hj
  rw [hC,hT]
  split
  ·rename_i e;subst e;exact(hheld i hi).2
  ·rename_i e;rw [h.held i hi j hj];exact(hheld i hi).1 j e
 ·dsimp only at hi ⊢
  rcases hlog with e | ⟨e,he,h1,h2,h3,h4,h5,h6,h7,h8,h9⟩
  ·subst e;exact hE _ _ (h.log i hi)
  ·subst he
   rw [List.length_append] at hi
   simp only [List.length_cons,List.length_nil] at hi
   rcases Nat.lt_or_ge i s.log.length with hlt | hge
   ·rw [List.getElem_append_left hlt];exact hE _ _ (h.log i hlt)
   ·have:i=s.log.length:=by omega
    subst this
    rw [List.getElem_append_right (Nat.le_refl _)]
    simp only [Nat.sub_self,List.getElem_cons_zero]
    refine⟨by rw [hn];omega,?_,⟨h4,h5⟩,⟨h6,by omega⟩,by dsimp only;rw [hcl];exact h8,by dsimp only;rw [hcl];exact h9⟩
    rw [hBody,show e.task.toNat=k by omega];exact⟨h2,h3⟩
theorem c_get {s:Sys}(i:Nat):s.cells.getD i noCell=s.c i:=by unfold Sys.c;simp
theorem SInv.setOwn {p:Prog}{s:Sys}{k:Nat}(h:SInv p s)(hk:k<s.tasks.length){t':Task}(hb:t'.body=(s.t k).body)(hu:t'.up=(s.t k).up)(ht:TInv p s.cells.length s.clock s.log.length t')(hd:∀ i:Nat,i<s.cells.length→(Hd t' i ↔ Hd (s.t k) i)):SInv p (s.setT k t'):=by
 refine h.set hk hb hu rfl (Int.le_refl _) h.clock.2 (Nat.le_refl _) ht (fun i hi=>?_) (fun i hi=>?_) (.inl rfl)
 ·rw [c_get];exact h.cell i hi
 ·rw [c_get];exact⟨fun j _=>Iff.rfl,by rw [hd i hi];exact h.held i hi k hk⟩
end Go.Proofs.YtjacjafmimgfcaaGreat
