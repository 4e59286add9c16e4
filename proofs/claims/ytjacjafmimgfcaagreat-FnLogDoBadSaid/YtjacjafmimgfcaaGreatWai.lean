/- A task's own steps keep a system in order: plain Lean. -/
import Derived.Test.YtjacjafmimgfcaaGreatWah
set_option linter.unusedVariables false
set_option linter.unusedSimpArgs false
namespace Go.Proofs.YtjacjafmimgfcaaGreat
theorem putsOk_nil (n:Int):putsOk [] n=true:=rfl
theorem addPut_mem {l:List Put}{x y:Put}:y ∈ addPut l x ↔ y=x∨(y ∈ l∧y.cell≠x.cell):=by
 unfold addPut
 simp only [List.mem_append,List.mem_filter,List.mem_cons,decide_eq_true_eq]
 constructor
 ·rintro (⟨h,hc⟩ | h | ⟨h,hc⟩)
  ·exact .inr ⟨h,by omega⟩
  ·exact .inl h
  ·exact .inr ⟨h,by omega⟩
 ·rintro (h | ⟨h,hc⟩)
  ·exact .inr (.inl h)
  ·rcases Int.lt_or_gt_of_ne hc with h1 | h1
   ·exact .inl ⟨h,h1⟩
   ·exact .inr (.inr ⟨h,h1⟩)
theorem addPut_ok {l:List Put}{x:Put}{n:Int}(h:putsOk l n=true)(h1:0≤x.cell)(h2:x.cell≤n-1)(h3:0≤x.num)(h4:x.num≤99):putsOk (addPut l x) n=true:=by
 refine putsOk_of ?_ fun y hy=>?_
 ·unfold addPut
  have hs:=putsOk_sorted h
  rw [List.pairwise_append]
  refine⟨hs.sublist List.filter_sublist,?_,?_⟩
  ·rw [List.pairwise_cons]
   exact⟨fun y hy=>by simp only [List.mem_filter,decide_eq_true_eq] at hy;exact hy.2,hs.sublist List.filter_sublist⟩
  ·intro a ha b hb
   simp only [List.mem_filter,decide_eq_true_eq,List.mem_cons] at ha hb
   rcases hb with rfl | hb
   ·exact ha.2
   ·omega
 ·rcases addPut_mem.1 hy with rfl | ⟨hy,_⟩
  ·exact⟨h1,h2,h3,h4⟩
  ·exact putsOk_mem h hy
theorem act_in {p:Prog}{nc:Nat}{c:Int}{l:Nat}{t:Task}(hp:progOk p=true)(h:TInv p nc c l t)(hlt:t.pc<(p.acts t.body).length) :
  actOk (p.act t) p.cells.length t.body p.bodies.length=true∧∃ (b:Nat) (hb:b<p.bodies.length),t.body=(b:Int)∧p.act t ∈ p.bodies[b]:=by
 have hf:formOk p=true:=by unfold progOk at hp;simp only [Bool.and_eq_true] at hp;exact hp.1
 obtain⟨b,hb⟩:∃ b:Nat,t.body=(b:Int):=⟨t.body.toNat,by have:=h.body;omega⟩
 have hbl:b<p.bodies.length:=by have:=h.body;omega
 have hacts:p.acts t.body=p.bodies[b]:=by unfold Prog.acts;rw [hb,Int.toNat_natCast];exact getD_at _ _ _ hbl
 have hm:p.act t ∈ p.bodies[b]:=by
  unfold Prog.act
  rw [hacts] at hlt ⊢
  rw [getD_at _ _ _ (by have:=h.pc;omega)]
  exact List.getElem_mem _
 have hbo:=formOk_body hf hbl
 simp only [bodyOk,Bool.and_eq_true,List.all_eq_true] at hbo
 refine⟨by rw [hb];exact hbo.2 _ hm,b,hbl,hb,hm⟩
theorem act_deeds {p:Prog}{nc:Nat}{c:Int}{l:Nat}{t:Task}(hp:progOk p=true)(hcl:nc=p.cells.length)(h:TInv p nc c l t)(hlt:t.pc<(p.acts t.body).length)(hk:(p.act t).kind=1) :
  (∀ d ∈ (p.act t).deeds,deedOk d nc=true)∧(p.act t).deeds.length≤5∧(p.act t).kids=[]:=by
 have:=(act_in hp h hlt).1
 unfold actOk at this
 rw [if_pos hk] at this
 simp only [Bool.and_eq_true,decide_eq_true_eq,List.all_eq_true] at this
 exact⟨fun d hd=>by rw [hcl];exact this.1.2 d hd,this.2,by have:=this.1.1.1;simpa using this⟩
theorem act_kids {p:Prog}{nc:Nat}{c:Int}{l:Nat}{t:Task}(hp:progOk p=true)(h:TInv p nc c l t)(hlt:t.pc<(p.acts t.body).length)(hk:(p.act t).kind=2) :
  (p.act t).kids.length≤2∧1≤(p.act t).kids.length∧∀ k ∈ (p.act t).kids,t.body+1≤k∧k≤(p.bodies.length:Int)-1:=by
 have:=(act_in hp h hlt).1
 unfold actOk at this
 rw [if_neg (by omega),if_pos hk] at this
 simp only [Bool.and_eq_true,kidsOk,inR,decide_eq_true_eq,List.all_eq_true] at this
 exact⟨by omega,by omega,fun k hk=>by have:=this.2.1 k hk;omega⟩
theorem act_reg {p:Prog}{nc:Nat}{c:Int}{l:Nat}{t:Task}(hp:progOk p=true)(h:TInv p nc c l t)(hlt:t.pc<(p.acts t.body).length)(h1:(p.act t).kind≠1)(h2:(p.act t).kind≠2) :
  (p.act t).kind=3∧(p.act t).reg=0∨(p.act t).kind=4∧0≤(p.act t).reg∧(p.act t).reg≤2:=by
 have:=(act_in hp h hlt).1
 unfold actOk at this
 rw [if_neg h1,if_neg h2] at this
 split at this
 ·rename_i e;simp only [Bool.and_eq_true,decide_eq_true_eq] at this;exact .inl ⟨e,this.2⟩
 ·split at this
  ·rename_i e;simp only [Bool.and_eq_true,inR,decide_eq_true_eq] at this;exact .inr ⟨e,by omega,by omega⟩
  ·cases this
/-! ### What a task must hold -/
theorem hd_none {t:Task}(h:t.stage=0∨t.stage=1)(c:Int):¬ Hd t c:=by
 unfold Hd mustHold
 rw [if_neg (by omega),if_neg (by omega),if_neg (by omega)]
 rintro ⟨x,hx,_⟩
 simp at hx
theorem hd_all {t:Task}(h:t.stage=3∨t.stage=4)(c:Int):Hd t c ↔ ∃ x ∈ t.puts,x.cell=c:=by
 unfold Hd mustHold
 rw [if_neg (by omega),if_pos h]
theorem hd_take {t:Task}(h:t.stage=2)(c:Int):Hd t c ↔ ∃ x ∈ t.puts.take t.pos.toNat,x.cell=c:=by
 unfold Hd mustHold;rw [if_pos h]
theorem hd_drop {t:Task}(h:t.stage=5)(c:Int):Hd t c ↔ ∃ x ∈ t.puts.drop t.pos.toNat,x.cell=c:=by
 unfold Hd mustHold
 rw [if_neg (by omega),if_neg (by omega),if_pos h]
/-! ### The steps -/
section
variable {p:Prog}{s:Sys}{k:Nat}
theorem freed_get (cells:List Cell)(k:Int)(i:Nat)(hi:i<cells.length):(freed cells k).getD i noCell=if (cells.getD i noCell).lock=k then { cells.getD i noCell with lock:=-1 } else cells.getD i noCell:=by
 unfold freed
 simp only [List.getD_eq_getElem?_getD,List.getElem?_map,List.getElem?_eq_getElem hi,Option.map_some,Option.getD_some]
theorem SInv.release (h:SInv p s)(hk:k<s.tasks.length){t':Task}(hb:t'.body=(s.t k).body)(hu:t'.up=(s.t k).up)(ht:TInv p s.cells.length s.clock s.log.length t')(hst:t'.stage=0) :
  SInv p { s with cells:=freed s.cells k,tasks:=s.tasks.set k t' }:=by
 refine h.set hk hb hu (by simp [freed]) (Int.le_refl _) h.clock.2 (Nat.le_refl _) ht (fun i hi=>?_) (fun i hi=>?_) (.inl rfl)
 ·have hc:=h.cell i hi
  rw [freed_get _ _ _ hi,c_get]
  split
  ·exact⟨hc.1,hc.2.1,hc.2.2.1,hc.2.2.2.1,by dsimp only;omega,by dsimp only;omega⟩
  ·exact hc
 ·rw [freed_get _ _ _ hi,c_get]
  constructor
  ·intro j hj
   split
   ·rename_i e;dsimp only;omega
   ·exact Iff.rfl
  ·have hn:=hd_none (t:=t') (.inl hst) i
   constructor
   ·intro x;exact absurd x hn
   ·intro x
    exfalso
    split at x
    ·dsimp only at x;omega
    ·rename_i e;exact e x
theorem TInv.again {nc:Nat}{c:Int}{l:Nat}{t:Task}(h:TInv p nc c l t)(hc:0≤c)(w:Int)(hw:0≤w∧w≤c+1):TInv p nc c l { t with regs:=t.old,reads:=[],puts:=[],whn:=w,stage:=0,pos:=0 } :=
 { h with stage:=by dsimp only;omega,runs:=fun e=>absurd rfl e,regs:=h.old,reads:=putsOk_nil _,puts:=putsOk_nil _,s0:=fun _=>⟨rfl,rfl,rfl,hw⟩,s1:=fun e=>by simp at e,s2:=fun e=>by simp at e,s3:=fun e=>by simp at e,s4:=fun e=>by simp at e,s5:=fun e=>by simp at e }
theorem SInv.again (h:SInv p s)(hk:k<s.tasks.length):SInv p (againS s k) :=
 h.release hk rfl rfl ((h.t k hk).again h.clock.1 0 (by have:=h.clock;omega)) rfl
theorem againS_t (hk:k<s.tasks.length)(j:Nat):(againS s k).t j=if j=k then { s.t k with regs:=(s.t k).old,reads:=[],puts:=[],whn:=0,stage:=0,pos:=0 } else s.t j:=t_set hk j
theorem againS_set (t':Task):(againS s k).setT k t'={ s with cells:=freed s.cells k,tasks:=s.tasks.set k t' }:=by
 unfold againS Sys.setT;simp
theorem SInv.begin (h:SInv p s)(hk:k<s.tasks.length)(hw:(s.t k).way=0)(hl:(s.t k).pc<(p.acts (s.t k).body).length)(ha:(p.act (s.t k)).kind=1)(hst:(s.t k).stage=0):SInv p (beginS s k):=by
 have ht:=h.t k hk
 have h0:=ht.s0 hst
 refine h.setOwn hk rfl rfl ({ ht with stage:=by dsimp only;omega,runs:=fun _=>⟨hw,hl,ha⟩,old:=ht.regs,s0:=fun e=>by simp at e,s1:=fun _=>⟨Int.le_refl _,by show (0:Int)≤((p.act (s.t k)).deeds.length:Int);omega,rfl⟩,s2:=fun e=>by simp at e,s3:=fun e=>by simp at e,s4:=fun e=>by simp at e,s5:=fun e=>by simp at e,since:=⟨h.clock.1,Int.le_refl _⟩,frm:=by dsimp only;omega }) fun i hi=>?_
 exact⟨fun x=>absurd x (hd_none (.inr rfl) i),fun x=>absurd x (hd_none (.inl hst) i)⟩
theorem SInv.deedT (h:SInv p s)(hk:k<s.tasks.length)(hst:(s.t k).stage=1)(hp:(s.t k).pos<(p.act (s.t k)).deeds.length){rg:List Int}{rd pu:List Put}(h1:numsOk rg=true∧rg.length=3)(h2:putsOk rd s.cells.length=true)(h3:putsOk pu s.cells.length=true) :
  SInv p (s.setT k (stepT { s.t k with regs:=rg,reads:=rd,puts:=pu })):=by
 have ht:=h.t k hk
 have hs1:=ht.s1 hst
 have hr:=ht.runs (by omega)
 refine h.setOwn hk rfl rfl ({ ht with runs:=fun _=>hr,regs:=h1,reads:=h2,puts:=h3,s0:=fun e=>by simp only [stepT] at e;omega,s1:=fun _=>⟨by simp only [stepT];omega,by show (s.t k).pos+1≤_;simp only [Prog.act,stepT] at *;omega,hs1.2.2⟩,s2:=fun e=>by simp only [stepT] at e;omega,s3:=fun e=>by simp only [stepT] at e;omega,s4:=fun e=>by simp only [stepT] at e;omega,s5:=fun e=>by simp only [stepT] at e;omega }) fun i hi=>?_
 exact⟨fun x=>absurd x (hd_none (.inr (by simp only [stepT];exact hst)) i),fun x=>absurd x (hd_none (.inr hst) i)⟩
theorem c_at (i:Int)(h0:0≤i)(h1:i<s.cells.length):∃ n:Nat,i=(n:Int)∧n<s.cells.length∧s.c i=s.c (n:Int):=⟨i.toNat,by omega,by omega,by rw [Int.toNat_of_nonneg h0]⟩
theorem SInv.cnum (h:SInv p s)(i:Int)(h0:0≤i)(h1:i≤(s.cells.length:Int)-1):0≤(s.c i).num∧(s.c i).num≤99∧-1≤(s.c i).lock:=by
 obtain⟨n,e,hn,_⟩:=c_at (s:=s) i h0 (by omega)
 rw [e]
 have:=h.cell n hn
 omega
theorem SInv.oneDeed (h:SInv p s)(hk:k<s.tasks.length)(hst:(s.t k).stage=1)(hp:(s.t k).pos<(p.act (s.t k)).deeds.length)(d:Deed)(hd:deedOk d s.cells.length=true):SInv p (oneDeed s k d):=by
 have ht:=h.t k hk
 have hr:∀ (a:Int) (n:Int),0≤n→n≤99→numsOk ((s.t k).regs.set a.toNat n)=true∧((s.t k).regs.set a.toNat n).length=3:=fun a n h0 h1=>⟨numsOk_set ht.regs.1 _ _ h0 h1,by rw [List.length_set];exact ht.regs.2⟩
 have hrd:=fun i=>numsOk_rd ht.regs.1 i
 unfold Go.Proofs.YtjacjafmimgfcaaGreat.oneDeed
 dsimp only
 rcases deedOk_kinds hd with ⟨e,ha,hb⟩ | ⟨e,ha,hb⟩ | ⟨e,ha,hb⟩ | ⟨e,ha,hb⟩ | ⟨e,ha,hb⟩
 ·rw [if_pos e]
  unfold loadS
  dsimp only
  have hc:=h.cnum d.b (by omega) (by omega)
  split
  ·rename_i hf
   rcases findPut_cases (s.t k).puts d.b with ⟨e1,_⟩ | ⟨i,hi,e1,_⟩
   ·omega
   ·rw [e1,Int.toNat_natCast,getD_at _ _ _ hi]
    have:=putsOk_mem ht.puts (List.getElem_mem hi)
    exact h.deedT hk hst hp (hr _ _ (by omega) (by omega)) ht.reads ht.puts
  ·split
   ·exact h.again hk
   ·exact h.deedT hk hst hp (hr _ _ hc.1 hc.2.1) (addPut_ok ht.reads (by dsimp only;omega) (by dsimp only;omega) hc.1 hc.2.1) ht.puts
 ·rw [if_neg (by omega),if_pos e]
  exact h.deedT hk hst hp ht.regs ht.reads (addPut_ok ht.puts (by dsimp only;omega) (by dsimp only;omega) (hrd _).1 (hrd _).2)
 ·rw [if_neg (by omega),if_neg (by omega),if_pos e]
  exact h.deedT hk hst hp (hr _ _ (by omega) (by omega)) ht.reads ht.puts
 ·rw [if_neg (by omega),if_neg (by omega),if_neg (by omega),if_pos e]
  exact h.deedT hk hst hp (hr _ _ (by omega) (by omega)) ht.reads ht.puts
 ·rw [if_neg (by omega),if_neg (by omega),if_neg (by omega),if_neg (by omega)]
  split
  ·rw [againS_set,againS_t hk,if_pos rfl]
   have:=ht.since
   exact h.release hk rfl rfl (ht.again h.clock.1 ((s.t k).since+1) (by omega)) rfl
  ·exact h.deedT hk hst hp ht.regs ht.reads ht.puts
theorem SInv.stage2 (h:SInv p s)(hk:k<s.tasks.length)(hst:(s.t k).stage=1)(hp:(s.t k).puts.length≠0):SInv p (s.setT k (stageT (s.t k) 2)):=by
 have ht:=h.t k hk
 have hs1:=ht.s1 hst
 have hr:=ht.runs (by omega)
 refine h.setOwn hk rfl rfl ({ ht with stage:=by simp only [stageT];omega,runs:=fun _=>hr,s0:=fun e=>by simp [stageT] at e,s1:=fun e=>by simp [stageT] at e,s2:=fun _=>⟨Int.le_refl _,by simp only [stageT];omega,hs1.2.2⟩,s3:=fun e=>by simp [stageT] at e,s4:=fun e=>by simp [stageT] at e,s5:=fun e=>by simp [stageT] at e }) fun i hi=>?_
 refine⟨fun x=>?_,fun x=>absurd x (hd_none (.inr hst) i)⟩
 rw [hd_take rfl] at x
 obtain⟨y,hy,_⟩:=x
 simp [stageT] at hy
theorem TInv.end_ {nc:Nat}{c:Int}{l l':Nat}{t:Task}(h:TInv p nc c l t)(hl:l≤l')(hc:0≤c)(hw:t.way=0)(hlt:t.pc<(p.acts t.body).length):TInv p nc c l' { t with pc:=t.pc+1,reads:=[],puts:=[],since:=0,whn:=0,frm:=0,stage:=0,pos:=0 } :=
 { h with pc:=by have:=h.pc;dsimp only;omega,stage:=by dsimp only;omega,runs:=fun e=>absurd rfl e,reads:=putsOk_nil _,puts:=putsOk_nil _,s0:=fun _=>⟨rfl,rfl,rfl,by dsimp only;omega,by dsimp only;omega⟩,s1:=fun e=>by simp at e,s2:=fun e=>by simp at e,s3:=fun e=>by simp at e,s4:=fun e=>by simp at e,s5:=fun e=>by simp at e,since:=by dsimp only;omega,frm:=by dsimp only;omega,forks:=fun e=>by dsimp only at e;omega,ended:=fun e=>by dsimp only at e;omega }
theorem SInv.end_ (h:SInv p s)(hk:k<s.tasks.length)(hst:(s.t k).stage=1):SInv p (endS s k (s.t k).since):=by
 have ht:=h.t k hk
 have hr:=ht.runs (by omega)
 unfold endS
 refine h.set hk rfl rfl rfl (Int.le_refl _) h.clock.2 (by simp) (by rw [List.length_append];exact ht.end_ (Nat.le_add_right _ _) h.clock.1 hr.1 hr.2.1) (fun i hi=>?_) (fun i hi=>?_) (.inr ⟨_,rfl,rfl,ht.pc.1,hr.2.1,ht.since.1,ht.since.2,ht.frm.1,ht.frm.2,ht.reads,ht.puts⟩)
 ·rw [c_get];exact h.cell i hi
 ·rw [c_get]
  refine⟨fun j _=>Iff.rfl,?_⟩
  rw [← h.held i hi k hk]
  exact⟨fun x=>absurd x (hd_none (.inl rfl) i),fun x=>absurd x (hd_none (.inr hst) i)⟩
theorem SInv.deed (h:SInv p s)(hk:k<s.tasks.length)(hst:(s.t k).stage=1):SInv p (deedS s k (p.act (s.t k)).deeds):=by
 have ht:=h.t k hk
 have hr:=ht.runs (by omega)
 have hs1:=ht.s1 hst
 have hdd:=act_deeds h.prog h.cl ht hr.2.1 hr.2.2
 unfold deedS
 dsimp only
 split
 ·split
  ·exact h.end_ hk hst
  ·rename_i hp;exact h.stage2 hk hst hp
 ·rename_i hp
  refine h.oneDeed hk hst (by omega) _ ?_
  rw [getD_at _ _ _ (by omega)]
  exact hdd.1 _ (List.getElem_mem _)
theorem cset_get (cells:List Cell)(i j:Nat)(x:Cell)(hi:i<cells.length):(cells.set i x).getD j noCell=if j=i then x else cells.getD j noCell:=by
 simp only [List.getD_eq_getElem?_getD]
 by_cases e:j=i
 ·subst e;simp [hi]
 ·rw [if_neg e,List.getElem?_set_ne (by omega)]
theorem SInv.lock (h:SInv p s)(hk:k<s.tasks.length)(hst:(s.t k).stage=2):SInv p (lockS s k):=by
 have ht:=h.t k hk
 have hr:=ht.runs (by omega)
 have hs2:=ht.s2 hst
 obtain⟨q,hq⟩:∃ q:Nat,(s.t k).pos=(q:Int):=⟨(s.t k).pos.toNat,by omega⟩
 have hql:q<(s.t k).puts.length:=by omega
 have hx:=putsOk_mem ht.puts (List.getElem_mem hql)
 obtain⟨c,hc⟩:∃ c:Nat,((s.t k).puts[q]).cell=(c:Int):=⟨((s.t k).puts[q]).cell.toNat,by omega⟩
 have hcl:c<s.cells.length:=by omega
 unfold lockS
 dsimp only
 rw [hq,Int.toNat_natCast,getD_at _ _ _ hql,hc,Int.toNat_natCast]
 split
 ·exact h.again hk
 ·rename_i hl
  have hcc:=h.cell c hcl
  have hlk:(s.c (c:Int)).lock=-1:=by omega
  have hmem:∀ i:Nat,(∃ x ∈ (s.t k).puts.take (q+1),x.cell=i) ↔ (Hd (s.t k) i∨i=c):=by
   intro i
   rw [hd_take hst,hq,Int.toNat_natCast,List.take_succ_eq_append_getElem hql]
   simp only [List.mem_append,List.mem_singleton]
   constructor
   ·rintro ⟨x,hx | hx,e⟩
    ·exact .inl ⟨x,hx,e⟩
    ·subst hx;right;omega
   ·rintro (⟨x,hx,e⟩ | e)
    ·exact⟨x,.inl hx,e⟩
    ·exact⟨_,.inr rfl,by omega⟩
  refine h.set hk (by split<;>rfl) (by split<;>rfl) (by simp) (Int.le_refl _) h.clock.2 (Nat.le_refl _) ?_ (fun i hi=>?_) (fun i hi=>?_) (.inl rfl)
  ·split
   ·rename_i hp
    exact { ht with stage:=by simp only [stageT];omega,runs:=fun _=>hr,s0:=fun e=>by simp [stageT] at e,s1:=fun e=>by simp [stageT] at e,s2:=fun e=>by simp [stageT] at e,s3:=fun _=>⟨rfl,by simp only [stageT];omega,hs2.2.2⟩,s4:=fun e=>by simp [stageT] at e,s5:=fun e=>by simp [stageT] at e }
   ·rename_i hp
    exact { ht with runs:=fun _=>hr,s0:=fun e=>by simp only [stepT] at e;omega,s1:=fun e=>by simp only [stepT] at e;omega,s2:=fun _=>⟨by simp only [stepT];omega,by simp only [stepT];omega,hs2.2.2⟩,s3:=fun e=>by simp only [stepT] at e;omega,s4:=fun e=>by simp only [stepT] at e;omega,s5:=fun e=>by simp only [stepT] at e;omega }
  ·rw [cset_get _ _ _ _ hcl,c_get]
   split
   ·rename_i e;subst e;exact⟨hcc.1,hcc.2.1,hcc.2.2.1,hcc.2.2.2.1,by dsimp only;omega,by dsimp only;omega⟩
   ·exact h.cell i hi
  ·rw [cset_get _ _ _ _ hcl,c_get]
   constructor
   ·intro j hj
    split
    ·rename_i e;subst e;dsimp only;omega
    ·exact Iff.rfl
   ·have hH:Hd (if (q:Int)+1=(s.t k).puts.length then stageT (s.t k) 3 else stepT (s.t k)) i ↔ (Hd (s.t k) i∨i=c):=by
     rw [← hmem i]
     split
     ·rename_i e
      rw [hd_all (.inl rfl)]
      simp only [stageT]
      rw [List.take_of_length_le (by omega)]
     ·rw [hd_take (by simp only [stepT];exact hst)]
      simp only [stepT]
      rw [hq,show ((q:Int)+1).toNat=q+1 by omega]
    rw [hH,h.held i hi k hk]
    split
    ·rename_i e;dsimp only;exact⟨fun _=>rfl,fun _=>.inr e⟩
    ·rename_i e;exact⟨fun x=>x.resolve_right e,.inl⟩
theorem SInv.time (h:SInv p s)(hk:k<s.tasks.length)(hst:(s.t k).stage=3)(hck:s.clock<200):SInv p (timeS s k):=by
 have ht:=h.t k hk
 have hr:=ht.runs (by omega)
 have hs3:=ht.s3 hst
 have hsi:=ht.since
 have hc:=h.clock
 unfold timeS
 refine h.set hk rfl rfl rfl (by omega) (by omega) (Nat.le_refl _) ?_ (fun i hi=>?_) (fun i hi=>?_) (.inl rfl)
 ·have hm:=ht.mono (show s.clock≤s.clock+1 by omega) (Nat.le_refl _)
  exact { hm with stage:=by simp only [stageT];omega,runs:=fun _=>hr,s0:=fun e=>by simp [stageT] at e,s1:=fun e=>by simp [stageT] at e,s2:=fun e=>by simp [stageT] at e,s3:=fun e=>by simp [stageT] at e,s4:=fun _=>⟨Int.le_refl _,by simp only [stageT];omega,by simp only [stageT];omega,by simp only [stageT];omega,by simp only [stageT];omega⟩,s5:=fun e=>by simp [stageT] at e }
 ·rw [c_get];have:=h.cell i hi;omega
 ·rw [c_get]
  refine⟨fun j _=>Iff.rfl,?_⟩
  rw [← h.held i hi k hk,hd_all (.inr rfl),hd_all (.inl hst)]
  rfl
theorem SInv.check (h:SInv p s)(hk:k<s.tasks.length)(hst:(s.t k).stage=4):SInv p (checkS s k):=by
 have ht:=h.t k hk
 have hr:=ht.runs (by omega)
 have hs4:=ht.s4 hst
 unfold checkS
 dsimp only
 split
 ·refine h.setOwn hk rfl rfl ({ ht with stage:=by simp only [stageT];omega,runs:=fun _=>hr,s0:=fun e=>by simp [stageT] at e,s1:=fun e=>by simp [stageT] at e,s2:=fun e=>by simp [stageT] at e,s3:=fun e=>by simp [stageT] at e,s4:=fun e=>by simp [stageT] at e,s5:=fun _=>⟨Int.le_refl _,by simp only [stageT];omega,hs4.2.2.2.1,hs4.2.2.2.2⟩ }) fun i hi=>?_
  rw [hd_drop rfl,hd_all (.inr hst)]
  simp [stageT]
 ·split
  ·exact h.again hk
  ·refine h.setOwn hk rfl rfl ({ ht with runs:=fun _=>hr,s0:=fun e=>by simp only [stepT] at e;omega,s1:=fun e=>by simp only [stepT] at e;omega,s2:=fun e=>by simp only [stepT] at e;omega,s3:=fun e=>by simp only [stepT] at e;omega,s4:=fun _=>⟨by simp only [stepT];omega,by simp only [stepT];omega,hs4.2.2.1,hs4.2.2.2.1,hs4.2.2.2.2⟩,s5:=fun e=>by simp only [stepT] at e;omega }) fun i hi=>?_
   rw [hd_all (.inr (by simp only [stepT];exact hst)),hd_all (.inr hst)]
   simp [stepT]
theorem endS_mk (cells:List Cell)(t:Task)(whn:Int)(hk:k<s.tasks.length):endS { s with cells:=cells,tasks:=s.tasks.set k t } k whn={ s with cells:=cells,log:=s.log ++ [endEntry t k whn],tasks:=s.tasks.set k { t with pc:=t.pc+1,reads:=[],puts:=[],since:=0,whn:=0,frm:=0,stage:=0,pos:=0 } }:=by
 have e:(Sys.mk cells (s.tasks.set k t) s.clock s.log).t k=t:=by rw [t_set hk];simp
 unfold endS
 rw [e];simp
theorem SInv.write (h:SInv p s)(hk:k<s.tasks.length)(hst:(s.t k).stage=5):SInv p (writeS s k):=by
 have ht:=h.t k hk
 have hr:=ht.runs (by omega)
 have hs5:=ht.s5 hst
 have hsi:=ht.since
 obtain⟨q,hq⟩:∃ q:Nat,(s.t k).pos=(q:Int):=⟨(s.t k).pos.toNat,by omega⟩
 have hql:q<(s.t k).puts.length:=by omega
 have hx:=putsOk_mem ht.puts (List.getElem_mem hql)
 obtain⟨c,hc⟩:∃ c:Nat,((s.t k).puts[q]).cell=(c:Int):=⟨((s.t k).puts[q]).cell.toNat,by omega⟩
 have hcl:c<s.cells.length:=by omega
 have hcc:=h.cell c hcl
 have hmem:∀ i:Nat,Hd (s.t k) i ↔ (i=c∨∃ x ∈ (s.t k).puts.drop (q+1),x.cell=i):=by
  intro i
  rw [hd_drop hst,hq,Int.toNat_natCast,List.drop_eq_getElem_cons hql]
  simp only [List.mem_cons]
  constructor
  ·rintro ⟨x,hx | hx,e⟩
   ·subst hx;left;omega
   ·exact .inr ⟨x,hx,e⟩
  ·rintro (e | ⟨x,hx,e⟩)
   ·exact⟨_,.inl rfl,by omega⟩
   ·exact⟨x,.inr hx,e⟩
 have hnot:¬ ∃ x ∈ (s.t k).puts.drop (q+1),x.cell=c:=by
  rintro ⟨x,hx,e⟩
  obtain⟨j,hj,rfl⟩:=List.mem_iff_getElem.1 hx
  rw [List.length_drop] at hj
  simp only [List.getElem_drop] at e
  have:=List.pairwise_iff_getElem.1 (putsOk_sorted ht.puts) q (q+1+j) hql (by omega) (by omega)
  omega
 have hlk:(s.c (c:Int)).lock=k:=(h.held c hcl k hk).1 ((hmem c).2 (.inl rfl))
 have hcells:∀ i:Nat,i<s.cells.length→0≤((s.cells.set c ⟨((s.t k).puts[q]).num,(s.t k).whn,-1⟩).getD i noCell).num∧((s.cells.set c ⟨((s.t k).puts[q]).num,(s.t k).whn,-1⟩).getD i noCell).num≤99∧0≤((s.cells.set c ⟨((s.t k).puts[q]).num,(s.t k).whn,-1⟩).getD i noCell).time∧((s.cells.set c ⟨((s.t k).puts[q]).num,(s.t k).whn,-1⟩).getD i noCell).time≤s.clock∧-1≤((s.cells.set c ⟨((s.t k).puts[q]).num,(s.t k).whn,-1⟩).getD i noCell).lock∧((s.cells.set c ⟨((s.t k).puts[q]).num,(s.t k).whn,-1⟩).getD i noCell).lock<s.tasks.length:=by
  intro i hi
  rw [cset_get _ _ _ _ hcl,c_get]
  split
  ·dsimp only;omega
  ·exact h.cell i hi
 have hheld:∀ (t':Task),(∀ i:Nat,Hd t' i ↔ ∃ x ∈ (s.t k).puts.drop (q+1),x.cell=i)→∀ i:Nat,i<s.cells.length→(∀ j:Nat,j≠k→((s.c i).lock=j ↔ ((s.cells.set c ⟨((s.t k).puts[q]).num,(s.t k).whn,-1⟩).getD i noCell).lock=j))∧(Hd t' i ↔ ((s.cells.set c ⟨((s.t k).puts[q]).num,(s.t k).whn,-1⟩).getD i noCell).lock=k):=by
  intro t' ht' i hi
  rw [cset_get _ _ _ _ hcl,c_get]
  constructor
  ·intro j hj
   split
   ·rename_i e;subst e;dsimp only;omega
   ·exact Iff.rfl
  ·rw [ht' i]
   split
   ·rename_i e;subst e;dsimp only
    exact⟨fun x=>absurd x hnot,fun x=>by omega⟩
   ·rename_i e
    rw [← h.held i hi k hk,hmem i]
    exact⟨.inr,fun x=>x.resolve_left e⟩
 unfold writeS
 dsimp only
 rw [hq,Int.toNat_natCast,getD_at _ _ _ hql,hc,Int.toNat_natCast]
 split
 ·rename_i hp
  rw [endS_mk _ _ _ hk]
  refine h.set hk rfl rfl (by simp) (Int.le_refl _) h.clock.2 (by simp) ?_ hcells (hheld _ fun i=>?_) (.inr ⟨_,rfl,rfl,ht.pc.1,hr.2.1,by simp only [endEntry];omega,hs5.2.2.2,ht.frm.1,ht.frm.2,ht.reads,ht.puts⟩)
  ·rw [List.length_append]
   exact ht.end_ (Nat.le_add_right _ _) h.clock.1 hr.1 hr.2.1
  ·refine⟨fun x=>absurd x (hd_none (.inl rfl) i),?_⟩
   rintro ⟨x,hx,_⟩
   rw [List.drop_of_length_le (by omega)] at hx
   simp at hx
 ·rename_i hp
  refine h.set hk rfl rfl (by simp) (Int.le_refl _) h.clock.2 (Nat.le_refl _) ?_ hcells (hheld _ fun i=>?_) (.inl rfl)
  ·exact { ht with runs:=fun _=>hr,s0:=fun e=>by simp only [stepT] at e;omega,s1:=fun e=>by simp only [stepT] at e;omega,s2:=fun e=>by simp only [stepT] at e;omega,s3:=fun e=>by simp only [stepT] at e;omega,s4:=fun e=>by simp only [stepT] at e;omega,s5:=fun _=>⟨by simp only [stepT];omega,by simp only [stepT];omega,hs5.2.2.1,hs5.2.2.2⟩ }
  ·rw [hd_drop (by simp only [stepT];exact hst)]
   simp only [stepT]
   rw [hq,show ((q:Int)+1).toNat=q+1 by omega]
theorem SInv.try_ (h:SInv p s)(hk:k<s.tasks.length)(hw:(s.t k).way=0)(hl:(s.t k).pc<(p.acts (s.t k).body).length)(ha:(p.act (s.t k)).kind=1)(hck:s.clock<200):SInv p (tryS s k (p.act (s.t k)).deeds):=by
 have hs:=(h.t k hk).stage
 unfold tryS
 dsimp only
 split
 ·rename_i e;exact h.begin hk hw hl ha e
 ·split
  ·rename_i e;exact h.deed hk e
  ·split
   ·rename_i e;exact h.lock hk e
   ·split
    ·rename_i e;exact h.time hk e hck
    ·split
     ·rename_i e;exact h.check hk e
     ·exact h.write hk (by omega)
theorem SInv.way (h:SInv p s)(hk:k<s.tasks.length)(hst:(s.t k).stage=0)(w:Int)(hw:0≤w∧w≤4)(h1:w=1→(s.t k).pc<(p.acts (s.t k).body).length∧(p.act (s.t k)).kind=2)(h2:w=2→(s.t k).pc=(p.acts (s.t k).body).length):SInv p (setWay s k w):=by
 have ht:=h.t k hk
 exact h.setOwn hk rfl rfl ({ ht with way:=hw,runs:=fun e=>absurd hst e,forks:=h1,ended:=h2 }) fun i hi=>Iff.rfl
theorem SInv.next (h:SInv p s)(hk:k<s.tasks.length)(hst:(s.t k).stage=0)(hl:(s.t k).pc<(p.acts (s.t k).body).length):SInv p (s.setT k { s.t k with way:=0,pc:=(s.t k).pc+1 }):=by
 have ht:=h.t k hk
 refine h.setOwn hk rfl rfl ({ ht with pc:=by have:=ht.pc;dsimp only;omega,way:=by dsimp only;omega,runs:=fun e=>absurd hst e,s1:=fun e=>by dsimp only at e;omega,forks:=fun e=>by simp at e,ended:=fun e=>by simp at e }) fun i hi=>Iff.rfl
end
end Go.Proofs.YtjacjafmimgfcaaGreat
