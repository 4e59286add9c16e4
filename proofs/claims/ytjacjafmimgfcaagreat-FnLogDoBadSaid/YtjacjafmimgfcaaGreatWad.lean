/- Changes, done at once; programs, done task by task: plain Lean.; The reference does a change at once.; Draws: a change is drawn.; Draws: a body is drawn. -/
import Derived.StillTailTactics
import Derived.Test.YtjacjafmimgfcaaGreatWab
import Derived.Test.YtjacjafmimgfcaaGreatWac
set_option maxHeartbeats 8000000
set_option maxRecDepth 100000
set_option linter.unusedVariables false
set_option linter.unusedSimpArgs false
namespace Go.Proofs.YtjacjafmimgfcaaGreat
def rdI (l:List Int) (i:Int):Int:=l.getD i.toNat 0
def doDeed (cr:List Int × List Int) (d:Deed):Option (List Int × List Int) :=
 if d.kind=1 then some (cr.1,cr.2.set d.a.toNat (rdI cr.1 d.b))
 else if d.kind=2 then some (cr.1.set d.a.toNat (rdI cr.2 d.b),cr.2)
 else if d.kind=3 then some (cr.1,cr.2.set d.a.toNat d.b)
 else if d.kind=4 then some (cr.1,cr.2.set d.a.toNat ((rdI cr.2 d.a+rdI cr.2 d.b) % 100))
 else if rdI cr.2 d.a=0 then none else some cr
def doDeeds (cr:List Int × List Int):List Deed→Option (List Int × List Int)
 | []=>some cr
 | d :: r=>(doDeed cr d).bind fun cr'=>doDeeds cr' r
def deskOk (cells regs:List Int) (deeds:List Deed):Bool:=changeOk deeds cells.length && numsOk cells && (numsOk regs && decide (regs.length=3))
def changeDo (cells regs:List Int) (deeds:List Deed):Option (List Int × List Int):=if deskOk cells regs deeds then doDeeds (cells,regs) deeds else none
def runKids (f:List Int→Nat→Option (List Int × Bool)) (cells:List Int):List Int→Option (List Int × Bool)
 | []=>some (cells,false)
 | k :: r=>match f cells k.toNat with
  | none=>none
  | some (c,true)=>some (c,true)
  | some (c,false)=>runKids f c r
def runActs (f:List Int→Nat→Option (List Int × Bool)) (cells regs:List Int):List Act→Option (List Int × Bool)
 | []=>some (cells,false)
 | a :: r =>
  if a.kind=1 then match changeDo cells regs a.deeds with
   | none=>none
   | some (c,rg)=>runActs f c rg r
  else if a.kind=2 then match runKids f cells a.kids with
   | none=>none
   | some (c,true)=>some (c,true)
   | some (c,false)=>runActs f c regs r
  else if a.kind=4∧rdI regs a.reg=0 then runActs f cells regs r
  else some (cells,true)
def oneBody:Nat→Prog→List Int→Nat→Option (List Int × Bool)
 | 0,_,_,_=>none
 | n+1,p,cells,b=>runActs (fun c k=>oneBody n p c k) cells [0,0,0] (p.bodies.getD b [])
def oneRun (p:Prog):Option (List Int × Bool):=if progOk p then oneBody 4 p p.cells 0 else none
theorem doDeeds_snoc (cr:List Int × List Int)(l:List Deed)(d:Deed):doDeeds cr (l ++ [d])=(doDeeds cr l).bind fun cr'=>doDeed cr' d:=by
 induction l generalizing cr with
 | nil=>simp [doDeeds]
 | cons a r ih =>
  simp only [List.cons_append,doDeeds]
  cases doDeed cr a with
  | none=>rfl
  | some x=>simp [ih]
theorem doDeeds_take (cr:List Int × List Int)(l:List Deed)(k:Nat)(h:k<l.length):doDeeds cr (l.take (k+1))=(doDeeds cr (l.take k)).bind fun cr'=>doDeed cr' l[k]:=by
 rw [List.take_succ_eq_append_getElem h,doDeeds_snoc]
theorem doDeeds_none (cr:List Int × List Int)(l:List Deed)(k:Nat)(h:k<l.length)(hn:doDeeds cr (l.take (k+1))=none):doDeeds cr l=none:=by
 have e:l=l.take (k+1) ++ l.drop (k+1):=(List.take_append_drop _ _).symm
 rw [e]
 generalize l.take (k+1)=a at hn
 generalize l.drop (k+1)=b
 induction a generalizing cr with
 | nil=>simp [doDeeds] at hn
 | cons x r ih =>
  simp only [List.cons_append,doDeeds] at hn ⊢
  cases hx:doDeed cr x with
  | none=>rfl
  | some y=>rw [hx] at hn;simp at hn ⊢;exact ih y hn
theorem numsOk_get {l:List Int}(h:numsOk l=true)(i:Nat)(hi:i<l.length):0≤l[i]∧l[i]≤99:=by
 have:=List.all_eq_true.1 h _ (List.getElem_mem hi)
 simpa [inR] using this
theorem numsOk_rd {l:List Int}(h:numsOk l=true)(i:Int):0≤rdI l i∧rdI l i≤99:=by
 unfold rdI
 rcases Nat.lt_or_ge i.toNat l.length with hl | hl
 ·rw [getD_at _ _ _ hl];exact numsOk_get h _ hl
 ·rw [List.getD_eq_getElem?_getD,List.getElem?_eq_none hl];decide
theorem numsOk_set {l:List Int}(h:numsOk l=true)(i:Nat)(n:Int)(h0:0≤n)(h1:n≤99):numsOk (l.set i n)=true:=by
 unfold numsOk at *
 rw [List.all_eq_true] at *
 intro x hx
 rcases List.mem_or_eq_of_mem_set hx with hx | rfl
 ·exact h x hx
 ·simp [inR,h0,h1]
theorem deedOk_kinds {d:Deed}{n:Int}(h:deedOk d n=true) :
  d.kind=1∧(0≤d.a∧d.a≤2)∧(0≤d.b∧d.b≤n-1)∨d.kind=2∧(0≤d.a∧d.a≤n-1)∧(0≤d.b∧d.b≤2)∨d.kind=3∧(0≤d.a∧d.a≤2)∧(0≤d.b∧d.b≤99) ∨
   d.kind=4∧(0≤d.a∧d.a≤2)∧(0≤d.b∧d.b≤2)∨d.kind=5∧(0≤d.a∧d.a≤2)∧d.b=0:=by
 unfold deedOk at h
 split at h
 ·rename_i h1;simp [inR] at h;exact .inl ⟨h1,by omega,by omega⟩
 ·split at h
  ·rename_i h1;simp [inR] at h;exact .inr (.inl ⟨h1,by omega,by omega⟩)
  ·split at h
   ·rename_i h1;simp [inR] at h;exact .inr (.inr (.inl ⟨h1,by omega,by omega⟩))
   ·split at h
    ·rename_i h1;simp [inR] at h;exact .inr (.inr (.inr (.inl ⟨h1,by omega,by omega⟩)))
    ·split at h
     ·rename_i h1;simp [inR] at h;exact .inr (.inr (.inr (.inr ⟨h1,by omega,by omega⟩)))
     ·simp at h
structure Desk (n:Nat) (cr:List Int × List Int):Prop where
 c:numsOk cr.1=true
 r:numsOk cr.2=true
 cl:cr.1.length=n
 rl:cr.2.length=3
theorem Desk.deed {n:Nat}{cr cr':List Int × List Int}(h:Desk n cr){d:Deed}(hd:deedOk d n=true)(he:doDeed cr d=some cr'):Desk n cr':=by
 have h1:=numsOk_rd h.c d.b
 have h2:=numsOk_rd h.r d.b
 have h3:=numsOk_rd h.r d.a
 unfold doDeed at he
 rcases deedOk_kinds hd with ⟨hk,ha,hb⟩ | ⟨hk,ha,hb⟩ | ⟨hk,ha,hb⟩ | ⟨hk,ha,hb⟩ | ⟨hk,ha,hb⟩
 all_goals simp [hk] at he
 ·subst he;exact⟨h.c,numsOk_set h.r _ _ h1.1 h1.2,h.cl,by simp [h.rl]⟩
 ·subst he;exact⟨numsOk_set h.c _ _ h2.1 h2.2,h.r,by simp [h.cl],h.rl⟩
 ·subst he;exact⟨h.c,numsOk_set h.r _ _ hb.1 hb.2,h.cl,by simp [h.rl]⟩
 ·subst he;exact⟨h.c,numsOk_set h.r _ _ (by omega) (by omega),h.cl,by simp [h.rl]⟩
 ·obtain⟨_,rfl⟩:=he;exact h
theorem Desk.deeds {n:Nat}{cr cr':List Int × List Int}(h:Desk n cr){l:List Deed}(hl:l.all (deedOk · n)=true)(he:doDeeds cr l=some cr'):Desk n cr':=by
 induction l generalizing cr with
 | nil=>simp [doDeeds] at he;subst he;exact h
 | cons a r ih =>
  simp only [doDeeds] at he
  simp only [List.all_cons,Bool.and_eq_true] at hl
  cases hx:doDeed cr a with
  | none=>rw [hx] at he;simp at he
  | some y=>rw [hx] at he;simp at he;exact ih (h.deed hl.1 hx) hl.2 he
theorem doDeed_reg {c r r':List Int}{d:Deed}(hk:d.kind=3∨d.kind=4)(h:doDeed ([],r) d=some ([],r')):doDeed (c,r) d=some (c,r'):=by
 unfold doDeed at *
 rcases hk with hk | hk<;>simp [hk] at h ⊢<;>exact h
theorem deskOk_desk {cells regs:List Int}{deeds:List Deed}(h:deskOk cells regs deeds=true):Desk cells.length (cells,regs)∧deeds.all (deedOk · cells.length)=true∧deeds.length≤5∧cells.length≤3:=by
 simp only [deskOk,changeOk,inR,Bool.and_eq_true,decide_eq_true_eq] at h
 exact⟨⟨h.1.2,h.2.1,rfl,h.2.2⟩,h.1.1.1.1,h.1.1.1.2,by omega⟩
end Go.Proofs.YtjacjafmimgfcaaGreat
namespace Go.Proofs.YtjacjafmimgfcaaGreat
open Go.RowKit
theorem infoInt:(Tryz.prog.info? 3).map (fun i=>(i.zero,i.size,i.bytes))=some (some (.int .i64 0),1,8):=by kernel_rfl
theorem l2Nums_calls (l:List Int)(n:Int)(A:Option Addr)(cap:Nat)(w:World)(S:Nat→Prop)(hr:Row Kd.int w S A l) :
  Calls Tryz.prog 75 #[.slice A l.length cap,.int .i64 n] w fun e w'=>e=.returned (.bool (numsOk l && ((l.length:Int) == n)))∧w=w':=by
 have hm:=hr.1
 go_enter Tryz.func75,Tryz.ntmps75
 go_wp2
 go_loop [5] (fun i=>∃ k:Nat,k≤l.length∧i=.int .i64 k∧Hid ((l.take k).all (fun k=>inR k 0 99)=true)) (fun i=>l.length-(intOf i).toNat)
 case atStart=>exact⟨0,Nat.zero_le _,rfl,by simp [Hid]⟩
 case round =>
  obtain⟨k,hk,rfl,HA⟩:=hrel
  by_cases hlt:k<l.length
  ·obtain⟨ad,rfl,hl,hc,hi⟩:=at_int hr hlt
   cases hin:inR l[k] 0 99
   all_goals
    have HI:=Lib.hid hin
    clear hin
    go_wp2_with (go_at_call 67;refine(l6In_calls _ _ _ _).mono ?_;rintro e w' ⟨rfl,rfl⟩;simp only [HI.out])
   ·go_ret
    refine⟨ret_bool ?_,rfl⟩
    rw [numsOk,all_false_of _ _ k hlt HI.out];rfl
   ·go_round
    case rel=>exact⟨k+1,by omega,by go_num,by unfold Hid;rw [all_take_snoc _ _ _ hlt,HA.out,HI.out];rfl⟩
    case measure=>simp [intOf];omega
  ·go_wp2
   go_ret
   refine⟨ret_bool ?_,rfl⟩
   have:=HA.out
   rw [all_take_all _ _ _ (by omega)] at this
   simp [numsOk,this]
theorem specChangeOk_calls (deeds:List Deed)(c:Int)(A:Option Addr)(cap:Nat)(w:World)(S:Nat→Prop)(hr:Row kDeed w S A deeds)(h0:0≤c)(h1:c≤9223372036854775807) :
  Calls Tryz.prog 74 #[.slice A deeds.length cap,.int .i64 c] w fun e w'=>e=.returned (.bool (changeOk deeds c))∧Below w.heap.size w w':=by
 have hm:=hr.1
 go_enter Tryz.func74,Tryz.ntmps74
 go_wp2
 go_loopw [5] (fun i wr=>∃ k:Nat,k≤deeds.length∧i=.int .i64 k∧Hid ((deeds.take k).all (deedOk · c)=true)∧Below w.heap.size w wr) (fun i _=>deeds.length-(intOf i).toNat)
 case atStart=>exact⟨0,Nat.zero_le _,rfl,by simp [Hid],Below.refl _ _⟩
 case round =>
  obtain⟨k,hk,rfl,HA,hbr⟩:=hrel
  by_cases hlt:k<deeds.length
  ·obtain⟨ad,rfl,hl,hc1,hc2,hc4,hi1,hi2,hi3⟩:=at_deed (hr.belowAll hbr) hlt
   cases hin:deedOk deeds[k] c
   all_goals
    have HI:=Lib.hid hin
    clear hin
    go_wp2_with (go_at_call 115;refine(l1Deed_calls _ _ _ _ _ h0 h1).mono ?_;rintro e w2 ⟨rfl,hb2⟩;rw [HI.out])
   ·go_ret
    refine⟨ret_bool ?_,below_then hbr hbr.size hb2⟩
    simp [changeOk,all_false_of (deedOk · c) _ k hlt HI.out]
   ·go_roundw
    case rel=>exact⟨k+1,by omega,by go_num,by unfold Hid;rw [all_take_snoc _ _ _ hlt,HA.out,HI.out];rfl,below_then hbr hbr.size hb2⟩
    case measure=>simp [intOf];omega
  ·have:=HA.out
   rw [all_take_all _ _ _ (by omega)] at this
   have HB:=Lib.hid this
   clear this
   by_cases h5:deeds.length≤5
   ·go_wp2_with (go_at_call 67;refine(l6In_calls _ _ _ _).mono ?_;rintro e w' ⟨rfl,rfl⟩)
    go_ret
    refine⟨ret_bool ?_,hbr⟩
    simp [changeOk,HB.out,h5]
   ·have h6:5<deeds.length:=by omega
    go_wp2_with (go_at_call 67;refine(l6In_calls _ _ _ _).mono ?_;rintro e w' ⟨rfl,rfl⟩)
    go_ret
    refine⟨ret_bool ?_,hbr⟩
    simp [changeOk,h5]
theorem l2Reg_calls (k a b:Int)(regs:List Int)(v:Value)(base:Nat)(w:World)(hn:regs.length=3)(ho:OwnI 3 w base v regs)(hv:numsOk regs=true)(hd:k=3∧inR a 0 2=true∧inR b 0 99=true∨k=4∧inR a 0 2=true∧inR b 0 2=true) :
  Calls Tryz.prog 76 #[v,.agg #[.int .i64 k,.int .i64 a,.int .i64 b]] w fun e w'=>e=.returned (.tuple #[])∧∃ regs',doDeed ([],regs) ⟨k,a,b⟩=some ([],regs')∧OwnI 3 w' base v regs'∧w.grownBy w' v.ownBlock:=by
 obtain⟨g,cap,rfl,hb,hl⟩:=ho.place (by omega)
 rcases hd with ⟨rfl,ha,hb'⟩ | ⟨rfl,ha,hb'⟩
 ·simp [inR] at ha hb'
  obtain⟨i,rfl⟩:=Int.eq_ofNat_of_zero_le ha.1
  obtain⟨hc,hf⟩:=ho.cell (j:=i) (by omega)
  go_enter Tryz.func76,Tryz.ntmps76
  go_wp2
  go_end0
  have hb3:isI b:=by unfold isI;omega
  exact⟨rfl,regs.set i b,by simp [doDeed],(ho.set_ (by omega) b hb3).al _,grown_al (grown_set (grown_refl _ _) _ _) _⟩
 ·simp [inR] at ha hb'
  obtain⟨i,rfl⟩:=Int.eq_ofNat_of_zero_le ha.1
  obtain⟨j,rfl⟩:=Int.eq_ofNat_of_zero_le hb'.1
  have hi:i<regs.length:=by omega
  have hj:j<regs.length:=by omega
  obtain⟨hc,hf⟩:=ho.cell hi
  obtain⟨hc2,hf2⟩:=ho.cell hj
  have hr1:0≤regs[i]∧regs[i]≤99:=by have:=List.all_eq_true.1 hv _ (List.getElem_mem hi);simpa [inR] using this
  have hr2:0≤regs[j]∧regs[j]≤99:=by have:=List.all_eq_true.1 hv _ (List.getElem_mem hj);simpa [inR] using this
  go_enter Tryz.func76,Tryz.ntmps76
  go_wp2
  obtain⟨W2,HW⟩:∃ W2,W2=w.alloc (Obj.cells #[.int .i64 4,.int .i64 (i:Nat),.int .i64 (j:Nat)] 124):=⟨_,rfl⟩
  have ho2:OwnI 3 W2 base (.slice (some ⟨g,0,none⟩) regs.length cap) regs:=by rw [HW];exact ho.al _
  have hg2:w.grownBy W2 (some g):=by rw [HW];exact grown_al (grown_refl _ _) _
  have c0:W2.cell? ⟨w.heap.size,0,none⟩=some (.int .i64 4):=by rw [HW];simp [go_sem]
  have c1:W2.cell? ⟨w.heap.size,1,none⟩=some (.int .i64 (i:Nat)):=by rw [HW];simp [go_sem]
  have c2:W2.cell? ⟨w.heap.size,2,none⟩=some (.int .i64 (j:Nat)):=by rw [HW];simp [go_sem]
  obtain⟨hc3,hf3⟩:=ho2.cell hi
  obtain⟨hc4,hf4⟩:=ho2.cell hj
  rw [← HW]
  clear HW hc hc2
  have i1:(i:Int)<3:=by omega
  have i2:(0:Int)≤i:=by omega
  have j1:(j:Int)<3:=by omega
  have j2:(0:Int)≤j:=by omega
  have e1:IntKind.i64.wrap (regs[i]+regs[j])=regs[i]+regs[j]:=IntWalk.i64_in _ (by omega)
  have e2:0≤regs[i]+regs[j]:=by omega
  go_still_tail 16,(by kernel_rfl)
  go_wp2
  go_end0
  have hb3:isI ((regs[i]+regs[j]) % 100):=by unfold isI;omega
  exact⟨rfl,regs.set i ((regs[i]+regs[j]) % 100),by simp [doDeed,rdI,hi,hj],(ho2.drewN _).set_ (by omega) _ hb3,grown_set (grown_drewN hg2 _) _ _⟩
end Go.Proofs.YtjacjafmimgfcaaGreat
namespace Go.Proofs.YtjacjafmimgfcaaGreat
open Go.RowKit
theorem infoDeed:(Tryz.prog.info? 124).map (fun i=>(i.zero,i.size,i.bytes))=some (some (.agg #[.int .i64 0,.int .i64 0,.int .i64 0]),3,24):=by kernel_rfl
theorem infoAct:(Tryz.prog.info? 120).map (fun i=>(i.zero,i.size,i.bytes))=some (some (.agg #[.int .i64 0,.slice none 0 0,.slice none 0 0,.int .i64 0]),4,64):=by kernel_rfl
theorem infoActS:(Tryz.prog.info? 116).map (fun i=>(i.zero,i.size,i.bytes))=some (some (.slice none 0 0),1,24):=by kernel_rfl
def newRow {α:Type} (d:Kd α) (M B:Nat) (v:Value) (w':World):Prop:=∃ (xs:List α) (A:Option Addr) (c:Nat),v=.slice A xs.length c∧xs.length≤c∧xs.length≤M∧Row d w' (fun k=>B≤k) A xs
theorem Row.laid {α:Type}{d:Kd α}{e:Nat}{w:World}{S:Nat→Prop}{xs:List α}(cs:Array Value)(hs:S w.heap.size)(hm:xs.length≤9223372036854775807)
  (h:∀ j x,xs[j]?=some x→∃ c,d.K w S x c∧∀ i u,c[i]?=some u→cs[j*d.sz+i]?=some u):Row d (w.alloc (.cells cs e)) S (some ⟨w.heap.size,0,none⟩) xs:=by
 refine⟨hm,fun _=>⟨_,rfl,hs,by simp,fun j x hj=>?_⟩⟩
 obtain⟨c,hk,hc⟩:=h j x hj
 refine⟨c,Kd.belowAll hk ((Below.refl _ _).alloc (Nat.le_refl _) _),fun i u hu=>?_⟩
 have:=World.news_of_block (w:=w.alloc (.cells cs e)) (B:=w.heap.size) (cs:=cs) (t:=e) (fr:=(0,0)) (heap_alloc_new w _) (j*d.sz+i) u (by simpa using hc i u hu)
 exact this
theorem isDeed_K {w:World}{S:Nat→Prop}(d:Deed)(h:i64 d.kind∧i64 d.a∧i64 d.b):kDeed.K w S d [.int .i64 d.kind,.int .i64 d.a,.int .i64 d.b]:=kDeed_mk w S d h.1 h.2.1 h.2.2
theorem four_deeds (w:World)(S:Nat→Prop)(hs:S w.heap.size)(e:Nat)(c y:Int)(hc:i64 c)(hy:i64 y) :
  Row kDeed (w.alloc (.cells #[.int .i64 1,.int .i64 0,.int .i64 c,.int .i64 3,.int .i64 1,.int .i64 y,.int .i64 4,.int .i64 0,.int .i64 1,.int .i64 2,.int .i64 c,.int .i64 0] e)) S (some ⟨w.heap.size,0,none⟩) [⟨1,0,c⟩,⟨3,1,y⟩,⟨4,0,1⟩,⟨2,c,0⟩]:=by
 have z:∀ n:Int,0≤n→n≤10→i64 n:=fun n h1 h2=>by unfold i64;omega
 refine Row.laid _ hs (by simp) fun j x hj=>?_
 match j with
 | 0=>injection hj with hj;subst hj;refine⟨_,isDeed_K _ ⟨z _ (by simp) (by simp),z _ (by simp) (by simp),hc⟩,fun i u hu=>?_⟩;match i with | 0 | 1 | 2=>exact hu | i+3=>simp at hu
 | 1=>injection hj with hj;subst hj;refine⟨_,isDeed_K _ ⟨z _ (by simp) (by simp),z _ (by simp) (by simp),hy⟩,fun i u hu=>?_⟩;match i with | 0 | 1 | 2=>exact hu | i+3=>simp at hu
 | 2=>injection hj with hj;subst hj;refine⟨_,isDeed_K _ ⟨z _ (by simp) (by simp),z _ (by simp) (by simp),z _ (by simp) (by simp)⟩,fun i u hu=>?_⟩;match i with | 0 | 1 | 2=>exact hu | i+3=>simp at hu
 | 3=>injection hj with hj;subst hj;refine⟨_,isDeed_K _ ⟨z _ (by simp) (by simp),hc,z _ (by simp) (by simp)⟩,fun i u hu=>?_⟩;match i with | 0 | 1 | 2=>exact hu | i+3=>simp at hu
 | j+4=>simp at hj
theorem Own.snoc {α:Type}{d:Kd α}{e:Nat}{w w':World}{B:Nat}{v':Value}{xs:List α}{S2:Nat→Prop}{x:α}(h:Own d e w' B (fun k=>B≤k∨S2 k∨k=w.heap.size) v' (xs ++ [x]))(h2:∀ k,S2 k→B≤k)(hb:B≤w.heap.size):Own d e w' B (fun k=>B≤k) v' (xs ++ [x]) :=
 h.mono fun k hk=>by
  rcases hk with hk | hk | hk
  ·exact hk
  ·exact h2 k hk
  ·omega
theorem Keep.app {T:Nat→Prop}{w w1 w2:World}{v:Value}(h:Keep T w w1)(hg:w1.grownBy w2 v.ownBlock)(hv:∀ k,v.ownBlock=some k→w.heap.size≤k):Keep T w w2 :=
 h.then_ (T':=fun k=>v.ownBlock=some k) (Keep.of_grown hg fun k hk=>hk) fun i hi hk=>by have:=hv i hk;omega
theorem RdAt.app {w1 w2:World}{g:Nat}{S:Nat→Prop}{A:Option Addr}{c:Nat}{bs:List Int}{f:Nat}{v:Value}(h:RdAt w1 g S A c bs f)(hg:w1.grownBy w2 v.ownBlock)(hv:∀ k,v.ownBlock=some k→g<k):RdAt w2 g S A c bs f :=
 h.keep (T:=fun k=>v.ownBlock=some k) (Keep.of_grown hg fun k hk=>hk) (fun hk=>by have:=hv g hk;omega) (fun k hs _ hk=>by have:=hv k hk;have:=h.ne k hs;omega)
theorem Own.above {α:Type}{d:Kd α}{e:Nat}{w:World}{B:Nat}{S:Nat→Prop}{v:Value}{xs:List α}(h:Own d e w B S v xs):∀ k,v.ownBlock=some k→B≤k:=fun k hk=>(h.blk k hk).1
theorem Own.newRow {α:Type}{d:Kd α}{e:Nat}{w:World}{B M:Nat}{v:Value}{xs:List α}(h:Own d e w B (fun k=>B≤k) v xs)(hm:xs.length≤M):newRow d M B v w:=by
 obtain⟨A,c,rfl,hc,hr⟩:=h.row
 exact⟨xs,A,c,rfl,hc,hm,hr⟩
theorem l71Deeds_calls (cells:Int)(w:World)(g:Nat)(S:Nat→Prop)(A:Option Addr)(c:Nat)(bs:List Int)(f:Nat)(hR:RdAt w g S A c bs (f+20))(h0:1≤cells)(hc:cells≤1000) :
  Calls Tryz.prog 140 #[.pointer (some ⟨g,0,none⟩),.int .i64 cells] w (Drew (newRow kDeed 5 w.heap.size) w g S A c bs f):=by
 have hgl:=hR.lt
 have hd:decide ((0:Int)<cells)=true:=decide_eq_true (by omega)
 go_enter Tryz.func140,Tryz.ntmps140
 go_wp2_with (first | (go_at_call 64;refine(pick_calls _ _ _ _ _ _ _ _ hR (by omega)).mono ?_;rintro e w1 ⟨x,rfl,hx0,hx1,hR1,hk1⟩;clear hR) | (go_at_call 64;refine(pick_calls _ _ _ _ _ _ _ _ hR1 (by omega)).mono ?_;rintro e w2 ⟨y,rfl,hy0,hy1,hR2,hk⟩;have hk2:=Keep.trans hk1 hk;clear hk hR1) | (go_at_call 64;refine(pick_calls _ _ _ _ _ _ _ _ hR2 (by omega)).mono ?_;rintro e w3 ⟨z,rfl,hz0,hz1,hR3,hk⟩;have hk3:=Keep.trans hk2 hk;clear hk hR2) | (go_at_call 64;refine(pick_calls _ _ _ _ _ _ _ _ (hR1.below (w':=w1.alloc _) (by repeat (first | exact Below.refl _ _ | (refine Below.alloc ?_ (by simp) _) | (refine Below.setCell ?_ (by simp) _) | (refine below_drewN' ?_ _) | (refine Below.drew ?_)))) (by omega)).mono ?_;rintro e w2 ⟨n,rfl,hn0,hn1,hR2,hk⟩;have ho2:=Own.step (Own.empty_ kDeed 124 w1 w.heap.size (fun k=>w.heap.size≤k) hk1.size hk1.size) (fun k hs hl=>hk.block k hl (by omega));have hk2:=Keep.trans (hk1.alloc _) hk;clear hk hR1 hk1))
 ·go_ret
  exact⟨_,rfl,⟨_,_,4,rfl,by simp,by simp,four_deeds _ _ hk3.size _ _ _ (by unfold i64;omega) (by unfold i64;omega)⟩,(hR3.below (by repeat (first | exact Below.refl _ _ | (refine Below.alloc ?_ (by simp) _) | (refine Below.setCell ?_ (by simp) _) | (refine below_drewN' ?_ _) | (refine Below.drew ?_)))).less (by omega),hk3.alloc _⟩
 ·obtain⟨m,rfl⟩:=Int.eq_ofNat_of_zero_le hn0
  have hR3:=Lib.hid (hR2.less (f':=f+3*(1+m)) (by omega))
  have hm5:1+m≤5:=by omega
  have hws:=hk2.size
  clear hR2 hn0 hn1 hx0 hx1
  obtain⟨wo,rfl⟩:∃ wo,wo=w:=⟨_,rfl⟩
  go_loopw [6,7] (fun v n wr=>∃ (ds:List Deed) (k:Nat),n=.int .i64 k∧Own kDeed 124 wr wo.heap.size (fun k=>wo.heap.size≤k) v ds∧ds.length+k≤5∧RdAt wr g S A c bs (f+3*k)∧Keep (fun k=>k=g) wo wr) (fun _ n _=>(intOf n).toNat)
  case atStart=>exact⟨[],1+m,by go_num,ho2,by simpa using hm5,hR3.out,hk2⟩
  case round =>
   obtain⟨ds,k,rfl,ho,hl,hRr,hkr⟩:=hrel
   have hwr:=hkr.size
   by_cases hlt:0<k
   ·obtain⟨k,rfl⟩:∃ j,k=j+1:=⟨k-1,by omega⟩
    have hRs:=Lib.hid (hRr.less (f':=f+3*k+3) (by omega))
    clear hRr hlt
    go_wp2_with (first | (go_at_call 153;refine(l71Deed_calls _ _ _ _ _ _ _ _ hRs.out (by omega) (by omega)).mono ?_;rintro e w4 ⟨_,rfl,⟨d,rfl,hd4⟩,hR4,hk4⟩;have ho4:=ho.step (fun k hs hl=>hk4.block k hl (by omega));have hk5:=Keep.trans hkr hk4;clear hk4 ho hkr) | (at_builtin;refine wpList_append_kd (d:=kDeed) rfl (.tmp 36) (.tmp 40) _ rfl Tryz.underlying76 _ 24 infoDeed rfl (by decide) (by decide) rfl (ho4.belowAll (w':=w4.alloc _) (by repeat (first | exact Below.refl _ _ | (refine Below.alloc ?_ (by simp) _) | (refine Below.setCell ?_ (by simp) _) | (refine below_drewN' ?_ _) | (refine Below.drew ?_)))) _ _ rfl (Row.one_ (e:=124) (isDeed_K (w:=w4) (S:=fun _=>False) d hd4)) (fun k hk e=>by have:=ho4.blk k e.symm;rcases hk with hk | hk;exact hk;omega) (by simp;omega) (by simp;have:=hk5.size;omega) ?_;intro v5 w5 ho5 hg5 hv5))
    have h54:=hk5.size
    have hu:=ho4.above
    exact⟨⟨ds ++ [d],k,rfl,ho5.snoc (fun k hk=>by rcases hk with hk | hk;exact hk.elim;omega) (by simp;omega),by simp;omega,(hR4.below (by repeat (first | exact Below.refl _ _ | (refine Below.alloc ?_ (by simp) _) | (refine Below.setCell ?_ (by simp) _) | (refine below_drewN' ?_ _) | (refine Below.drew ?_)))).app (v:=u6) hg5 (fun k hk=>by have:=hu k hk;omega),(hk5.alloc _).app (v:=u6) hg5 hu⟩,by simp [intOf]⟩
   ·have hk0:k=0:=by omega
    subst hk0
    go_wp2
    go_ret
    exact⟨_,rfl,ho.newRow (by omega),hRr.less (by omega),hkr⟩
end Go.Proofs.YtjacjafmimgfcaaGreat
namespace Go.Proofs.YtjacjafmimgfcaaGreat
open Go.RowKit
theorem Own.one_ {α:Type}{d:Kd α}{e:Nat}{w:World}{B:Nat}{S:Nat→Prop}{x:α}{cs:List Value}(h:d.K w S x cs)(hb:B≤w.heap.size)(hS:S w.heap.size):Own d e (w.alloc (.cells cs.toArray e)) B S (.slice (some ⟨w.heap.size,0,none⟩) 1 1) [x]:=by
 have hl:=d.len h
 refine own_intro [cs] ⟨by simp [hl],.inr ⟨w.heap.size,1,cs.toArray,rfl,hb,heap_alloc_new w _,Nat.le_refl _,by simp [_root_.Go.maxLen],by simp [← hl],by simp [← hl]⟩⟩ rfl (fun k hk=>by simp [Value.ownBlock] at hk;rw [← hk];exact hS) (fun j y hj=>?_)
 have hj0:j=0:=by
  have:=(List.getElem?_eq_some_iff.1 hj).1
  simp at this;exact this
 subst hj0
 simp at hj
 subst hj
 refine⟨cs,rfl,d.mono (fun k hk=>⟨hk.1,fun e=>?_⟩) (Kd.belowAll (w':=w.alloc (.cells cs.toArray e)) (d.bound h) ((Below.refl _ _).alloc (Nat.le_refl _) _))⟩
 injection e with e
 have:=hk.2
 have e':k=w.heap.size:=e
 omega
structure Mid {α:Type} (d:Kd α) (e:Nat) (wo wr w:World) (g:Nat) (S:Nat→Prop) (A:Option Addr) (c:Nat) (bs:List Int) (f:Nat) (v:Value) (xs:List α):Prop where
 R:RdAt w g S A c bs f
 k:Keep (fun k=>k=g) wo w
 o:Own d e w wo.heap.size (fun k=>wo.heap.size≤k∧k<wr.heap.size) v xs
 sz:wr.heap.size≤w.heap.size
 gl:g<wo.heap.size
 ol:wo.heap.size≤wr.heap.size
section
variable {α:Type}{d:Kd α}{e:Nat}{wo wr w w':World}{g:Nat}{S:Nat→Prop}{A:Option Addr}{c:Nat}{bs:List Int}{f f':Nat}{v v':Value}{xs:List α}{x:α}
theorem Mid.start (h1:RdAt w g S A c bs f)(h2:Keep (fun k=>k=g) wo w)(h3:Own d e w wo.heap.size (fun k=>wo.heap.size≤k) v xs)(h4:g<wo.heap.size):Mid d e wo w w g S A c bs f v xs :=
 ⟨h1,h2,h3.bound,Nat.le_refl _,h4,h2.size⟩
theorem Mid.less (h:Mid d e wo wr w g S A c bs f v xs)(hf:f'≤f):Mid d e wo wr w g S A c bs f' v xs:=⟨h.R.less hf,h.k,h.o,h.sz,h.gl,h.ol⟩
theorem Mid.pick (h:Mid d e wo wr w g S A c bs f v xs)(hR:RdAt w' g S A c bs f')(hk:Keep (fun k=>k=g) w w'):Mid d e wo wr w' g S A c bs f' v xs :=
 ⟨hR,h.k.trans hk,h.o.step (fun k hs hl=>hk.block k hl (by have:=h.gl;omega)),Nat.le_trans h.sz hk.size,h.gl,h.ol⟩
theorem Mid.below (h:Mid d e wo wr w g S A c bs f v xs)(hk:Below w.heap.size w w'):Mid d e wo wr w' g S A c bs f v xs:=h.pick (h.R.below hk) (Keep.of_belowAll _ hk)
theorem Mid.al (h:Mid d e wo wr w g S A c bs f v xs)(o:Obj):Mid d e wo wr (w.alloc o) g S A c bs f v xs:=h.below ((Below.refl _ _).alloc (Nat.le_refl _) _)
theorem Mid.grown (h:Mid d e wo wr w g S A c bs f v xs){row:Option Nat}(hg:w.grownBy w' row)(hr:∀ k,row=some k→wr.heap.size≤k):Mid d e wo wr w' g S A c bs f v xs :=
 have hk:Keep (fun k=>row=some k) w w':=Keep.of_grown hg fun k hk=>hk
 have hT:∀ k,k<wr.heap.size→¬ row=some k:=fun k hl e=>by have:=hr _ e;omega
 ⟨h.R.keep hk (hT g (Nat.lt_of_lt_of_le h.gl h.ol)) (fun k hs _=>hT k (by have:=h.gl;have:=h.ol;have:=h.R.ne k hs;omega)),
  h.k.then_ hk (fun i hi e=>absurd e (hT i (Nat.lt_of_lt_of_le hi h.ol))),h.o.step (fun k hs hl=>hk.block k hl (hT k hs.2)),Nat.le_trans h.sz hg.size,h.gl,h.ol⟩
theorem Mid.far (h:Mid d e wo wr w g S A c bs f v xs):∀ k,(wr.heap.size≤k∨k=w.heap.size)→some k≠v.ownBlock:=fun k hk e=>by
 have:=h.o.blk k e.symm
 have:=h.sz
 omega
theorem Mid.snoc (h:Mid d e wo wr w g S A c bs f v xs){n:Nat}(ho:Own d e w' wo.heap.size (fun k=>(wo.heap.size≤k∧k<wr.heap.size)∨(wr.heap.size≤k∨k=n)∨k=w.heap.size) v' (xs ++ [x]))(hn:wo.heap.size≤n)(hg:w.grownBy w' v.ownBlock) :
  RdAt w' g S A c bs f∧Keep (fun k=>k=g) wo w'∧Own d e w' wo.heap.size (fun k=>wo.heap.size≤k) v' (xs ++ [x]) :=
 ⟨h.R.app hg (fun k hk=>by have:=h.o.above k hk;have:=h.gl;omega),h.k.app hg h.o.above,ho.mono fun k hk=>by have:=h.ol;have:=h.sz;omega⟩
end
def act0 (k:Int):Act:=⟨k,[],[],0⟩
theorem act_K {w:World}{S:Nat→Prop}(k r:Int)(hk:i64 k)(hr:i64 r):kAct.K w S ⟨k,[],[],r⟩ [.int .i64 k,.slice none 0 0,.slice none 0 0,.int .i64 r] :=
 kAct_mk (w:=w) (S:=S) (A:=none) (B:=none) (c:=0) (e:=0) ⟨k,[],[],r⟩ (by simp) (by simp) (Row.nil _ _ _ _) (Row.nil _ _ _ _) hk hr
theorem act_K_kids {w:World}{S:Nat→Prop}(kids:List Int){B:Option Addr}{e:Nat}(he:kids.length≤e)(hB:Row Kd.int w S B kids):kAct.K w S ⟨2,[],kids,0⟩ [.int .i64 2,.slice none 0 0,.slice B kids.length e,.int .i64 0] :=
 kAct_mk (w:=w) (S:=S) (A:=none) (B:=B) (c:=0) (e:=e) ⟨2,[],kids,0⟩ (by simp) he (Row.nil _ _ _ _) hB (by unfold i64;simp) (by unfold i64;simp)
theorem act_K_deeds {w:World}{S:Nat→Prop}(ds:List Deed){A:Option Addr}{c:Nat}(hc:ds.length≤c)(hA:Row kDeed w S A ds):kAct.K w S ⟨1,ds,[],0⟩ [.int .i64 1,.slice A ds.length c,.slice none 0 0,.int .i64 0] :=
 kAct_mk (w:=w) (S:=S) (A:=A) (B:=none) (c:=c) (e:=0) ⟨1,ds,[],0⟩ hc (by simp) hA (Row.nil _ _ _ _) (by unfold i64;simp) (by unfold i64;simp)
theorem l71Body_calls (body bodies cells:Int)(w:World)(g:Nat)(S:Nat→Prop)(A:Option Addr)(c:Nat)(bs:List Int)(f:Nat)(hR:RdAt w g S A c bs (f+100))(h0:1≤cells)(hc:cells≤1000)(hb0:0≤body)(hb1:body<bodies)(hb2:bodies≤1000) :
  Calls Tryz.prog 139 #[.pointer (some ⟨g,0,none⟩),.int .i64 body,.int .i64 bodies,.int .i64 cells] w (Drew (newRow kAct 3 w.heap.size) w g S A c bs f):=by
 have hgl:=hR.lt
 obtain⟨wo,rfl⟩:∃ wo,wo=w:=⟨_,rfl⟩
 go_enter Tryz.func139,Tryz.ntmps139
 go_wp2_with (go_at_call 64;refine(pick_calls _ _ _ _ _ _ _ _ (hR.below (w':=wo.alloc _) (by repeat (first | exact Below.refl _ _ | (refine Below.alloc ?_ (by simp) _) | (refine Below.setCell ?_ (by simp) _) | (refine below_drewN' ?_ _) | (refine Below.drew ?_)))) (by omega)).mono ?_;rintro e w2 ⟨n,rfl,hn0,hn1,hR2,hk⟩;have ho2:=Own.step (Own.empty_ kAct 120 wo wo.heap.size (fun k=>wo.heap.size≤k) (Nat.le_refl _) (Nat.le_refl _)) (fun k hs hl=>hk.block k hl (by omega));have hk2:=Keep.trans ((Keep.refl _ wo).alloc _) hk;clear hk hR)
 obtain⟨m,rfl⟩:=Int.eq_ofNat_of_zero_le hn0
 have hR3:=Lib.hid (hR2.less (f':=f+25*(1+m)) (by omega))
 have hm5:1+m≤3:=by omega
 clear hR2 hn0 hn1
 go_loopw [9,10,11] (fun v n _ wr=>∃ (acts:List Act) (k:Nat),n=.int .i64 k∧Own kAct 120 wr wo.heap.size (fun k=>wo.heap.size≤k) v acts∧acts.length+k≤3∧RdAt wr g S A c bs (f+25*k)∧Keep (fun k=>k=g) wo wr) (fun _ n _ _=>(intOf n).toNat)
 case atStart=>exact⟨[],1+m,by go_num,ho2,by simpa using hm5,hR3.out,hk2⟩
 case round =>
  obtain⟨acts,k,rfl,ho,hl,hRr,hkr⟩:=hrel
  have hwr:=hkr.size
  by_cases hlt:0<k
  ·obtain⟨k,rfl⟩:∃ j,k=j+1:=⟨k-1,by omega⟩
   have hM:=Mid.start (hRr.less (f':=f+25*k+25) (by omega)) hkr ho hgl
   clear hRr hlt ho hkr ho2 hk2 hR3 hm5
   go_wp2_with (first | (go_at_call 64;refine(pick_calls _ _ _ _ _ _ _ _ hM.R (by omega)).mono ?_;rintro e w3 ⟨x,rfl,hx0,hx1,hRn,hk⟩;have hM3:=hM.pick hRn hk;clear hRn hk hM) | (go_at_call 64;refine(pick_calls _ _ _ _ _ _ _ _ hM3.R (by omega)).mono ?_;rintro e w4 ⟨y,rfl,hy0,hy1,hRn,hk⟩;have hM4:=hM3.pick hRn hk;clear hRn hk hM3) | (go_at_call 64;refine(pick_calls _ _ _ _ _ _ _ _ (hM4.R.below (w':=w4.alloc _) (by repeat (first | exact Below.refl _ _ | (refine Below.alloc ?_ (by simp) _) | (refine Below.setCell ?_ (by simp) _) | (refine below_drewN' ?_ _) | (refine Below.drew ?_)))) (by omega)).mono ?_;rintro e w5 ⟨z,rfl,hz0,hz1,hRn,hk⟩;have hM5:=(hM4.al _).pick hRn hk;have hKo:=(Own.one_ (d:=Kd.int) (e:=3) (w:=w4) (B:=wr.heap.size) (S:=(fun k=>wr.heap.size≤k)) (x:=body+1+y) ⟨rfl,by omega,by omega⟩ hM4.sz hM4.sz).step (fun k hs hl=>hk.block k hl (by have:=hM5.gl;have:=hM5.ol;omega));have hKr:=(Row.mono (S':=(fun k=>wr.heap.size≤k)) (fun k hk=>by have:=hM4.sz;rcases hk with hk | hk;exact hk.elim;omega) (Row.one_ (d:=Kd.int) (e:=3) (w:=w4) (S:=fun _=>False) (x:=body+1+y) ⟨rfl,by omega,by omega⟩)).keep hk (fun k hs _ e=>by have:=hM5.gl;have:=hM5.ol;omega);clear hRn hk hM4) | (go_at_call 64;refine(pick_calls _ _ _ _ _ _ _ _ hM5.R (by omega)).mono ?_;rintro e w6 ⟨t,rfl,ht0,ht1,hRn,hk⟩;have hM6:=hM5.pick hRn hk;have hKo6:=hKo.step (fun k hs hl=>hk.block k hl (by have:=hM6.gl;have:=hM6.ol;omega));clear hRn hk hM5 hKo hKr) | (at_builtin;refine wpList_append_kd (d:=Kd.int) rfl (.tmp 68) (.tmp 78) _ rfl Tryz.underlying22 _ 8 infoInt rfl (by decide) (by decide) rfl (hKo6.belowAll (w':=w6.alloc _) (by repeat (first | exact Below.refl _ _ | (refine Below.alloc ?_ (by simp) _) | (refine Below.setCell ?_ (by simp) _) | (refine below_drewN' ?_ _) | (refine Below.drew ?_)))) _ _ rfl (Row.one_ (d:=Kd.int) (e:=3) (w:=w6) (S:=fun _=>False) (x:=body+1+t) ⟨rfl,by omega,by omega⟩) (fun k hk e=>by have:=hKo6.blk k e.symm;rcases hk with hk | hk;exact hk;omega) (by simp) (by have:=hM6.sz;simp;omega) ?_;intro v7 w7 hK7 hg7 hv7;have hM7:=(hM6.al _).grown hg7 (fun k hk=>(hKo6.blk k hk).1);obtain⟨K,ck,rfl,hck,hKr⟩:=hK7.row;have hKs:=Row.mono (S':=(fun k=>wr.heap.size≤k)) (fun k hk=>by have:=hM6.sz;rcases hk with hk | hk | hk;exact hk;rcases hk with hk | hk;exact hk.elim;omega;simp at hk;omega) hKr;clear hM6 hKo6 hKr) | (at_builtin;refine wpList_append_kd (d:=kAct) rfl (.tmp 80) (.tmp 83) _ rfl Tryz.underlying116 _ 64 infoAct rfl (by decide) (by decide) rfl (hM7.al _).o _ _ rfl (Row.one_ (e:=120) (act_K_kids (w:=w7) [body+1+y,body+1+t] hck hKs)) (fun k hk=>hM7.far k hk) (by simp;omega) (by have:=hM7.k.size;simp;omega) ?_;intro v9 w9 ho9 hg9 hv9;obtain⟨hR9,hk9,ho9⟩:=(hM7.al _).snoc ho9 hM7.k.size hg9) | (at_builtin;refine wpList_append_kd (d:=kAct) rfl (.tmp 80) (.tmp 83) _ rfl Tryz.underlying116 _ 64 infoAct rfl (by decide) (by decide) rfl (hM5.al _).o _ _ rfl (Row.one_ (e:=120) (act_K_kids (w:=w5) [body+1+y] (Nat.le_refl _) hKr)) (fun k hk=>hM5.far k hk) (by simp;omega) (by have:=hM5.k.size;simp;omega) ?_;intro v9 w9 ho9 hg9 hv9;obtain⟨hR9,hk9,ho9⟩:=(hM5.al _).snoc ho9 hM5.k.size hg9) | (at_builtin;refine wpList_append_kd (d:=kAct) rfl (.tmp 34) (.tmp 36) _ rfl Tryz.underlying116 _ 64 infoAct rfl (by decide) (by decide) rfl (hM4.al _).o _ _ rfl (Row.one_ (e:=120) (act_K (w:=w4) (S:=(fun k=>wr.heap.size≤k)) 3 0 (by unfold i64;omega) (by unfold i64;omega))) (fun k hk=>hM4.far k hk) (by simp;omega) (by have:=hM4.k.size;simp;omega) ?_;intro v9 w9 ho9 hg9 hv9;obtain⟨hR9,hk9,ho9⟩:=(hM4.al _).snoc ho9 hM4.k.size hg9) | (at_builtin;refine wpList_append_kd (d:=kAct) rfl (.tmp 40) (.tmp 44) _ rfl Tryz.underlying116 _ 64 infoAct rfl (by decide) (by decide) rfl (hM4.al _).o _ _ rfl (Row.one_ (e:=120) (act_K (w:=w4) (S:=(fun k=>wr.heap.size≤k)) 4 y (by unfold i64;omega) (by unfold i64;omega))) (fun k hk=>hM4.far k hk) (by simp;omega) (by have:=hM4.k.size;simp;omega) ?_;intro v9 w9 ho9 hg9 hv9;obtain⟨hR9,hk9,ho9⟩:=(hM4.al _).snoc ho9 hM4.k.size hg9) | (go_at_call 140;refine(l71Deeds_calls _ _ _ _ _ _ _ _ hM3.R (by omega) (by omega)).mono ?_;rintro e w4 ⟨_,rfl,⟨ds,D,cd,rfl,hcd,hdl,hrd⟩,hRn,hk⟩;have hM4:=hM3.pick hRn hk;have hrs:=hrd.mono (S':=(fun k=>wr.heap.size≤k)) (fun k hk=>Nat.le_trans hM3.sz hk);clear hRn hk hM3 hrd) | (at_builtin;refine wpList_append_kd (d:=kAct) rfl (.tmp 22) (.tmp 27) _ rfl Tryz.underlying116 _ 64 infoAct rfl (by decide) (by decide) rfl (hM4.al _).o _ _ rfl (Row.one_ (e:=120) (act_K_deeds (w:=w4) ds hcd hrs)) (fun k hk=>hM4.far k hk) (by simp;omega) (by have:=hM4.k.size;simp;omega) ?_;intro v9 w9 ho9 hg9 hv9;obtain⟨hR9,hk9,ho9⟩:=(hM4.al _).snoc ho9 hM4.k.size hg9))
   all_goals first | exact⟨⟨_,k,rfl,ho9,by simp;omega,hR9.less (by omega),hk9⟩,by simp [intOf]⟩ | exact⟨⟨_,k,rfl,hM4.o.mono (fun k hk=>hk.1),by omega,hM4.R.less (by omega),hM4.k⟩,by simp [intOf]⟩ | exact⟨⟨_,k,rfl,hM3.o.mono (fun k hk=>hk.1),by omega,hM3.R.less (by omega),hM3.k⟩,by simp [intOf]⟩
  ·have hk0:k=0:=by omega
   subst hk0
   go_wp2
   go_ret
   exact⟨_,rfl,ho.newRow (by omega),hRr.less (by omega),hkr⟩
end Go.Proofs.YtjacjafmimgfcaaGreat
