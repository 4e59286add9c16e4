/- Steps keep a system in order: those that begin others, wait for them, and call them off. Plain Lean.; A system of the call's own: each of its rows in a block of its own. -/
import Derived.Test.YtjacjafmimgfcaaGreatWac
import Derived.Test.YtjacjafmimgfcaaGreatWag
import Derived.Test.YtjacjafmimgfcaaGreatWai
set_option linter.unusedVariables false
set_option linter.unusedSimpArgs false
namespace Go.Proofs.YtjacjafmimgfcaaGreat
structure Fr (k:Nat) (s s':Sys):Prop where
 n:s'.tasks.length=s.tasks.length
 nc:s'.cells.length=s.cells.length
 out:∀ j,j≠k→s'.t j=s.t j
 way:(s'.t k).way=(s.t k).way
 up:(s'.t k).up=(s.t k).up
 body:(s'.t k).body=(s.t k).body
 log:∃ l,s'.log=s.log ++ l
section
variable {p:Prog}{s s' s2:Sys}{k:Nat}
theorem Fr.refl (k:Nat)(s:Sys):Fr k s s:=⟨rfl,rfl,fun _ _=>rfl,rfl,rfl,rfl,[],by simp⟩
theorem Fr.trans (h:Fr k s s')(g:Fr k s' s2):Fr k s s2 :=
 ⟨g.n.trans h.n,g.nc.trans h.nc,fun j hj=>(g.out j hj).trans (h.out j hj),g.way.trans h.way,g.up.trans h.up,g.body.trans h.body,by
  obtain⟨l,e⟩:=h.log
  obtain⟨l2,e2⟩:=g.log
  exact⟨l ++ l2,by rw [e2,e,List.append_assoc]⟩⟩
theorem Fr.set (hk:k<s.tasks.length){t':Task}{cells':List Cell}{clock':Int}{l:List Entry}(hc:cells'.length=s.cells.length)(hw:t'.way=(s.t k).way)(hu:t'.up=(s.t k).up)(hb:t'.body=(s.t k).body):Fr k s ⟨cells',s.tasks.set k t',clock',s.log ++ l⟩:=by
 have e:∀ j,(Sys.mk cells' (s.tasks.set k t') clock' (s.log ++ l)).t j=if j=k then t' else s.t j:=fun j=>t_set hk j
 exact⟨List.length_set,hc,fun j hj=>by rw [e,if_neg hj],by rw [e,if_pos rfl];exact hw,by rw [e,if_pos rfl];exact hu,by rw [e,if_pos rfl];exact hb,l,rfl⟩
theorem Fr.set0 (hk:k<s.tasks.length){t':Task}{cells':List Cell}{clock':Int}(hc:cells'.length=s.cells.length)(hw:t'.way=(s.t k).way)(hu:t'.up=(s.t k).up)(hb:t'.body=(s.t k).body):Fr k s ⟨cells',s.tasks.set k t',clock',s.log⟩:=by
 have:=Fr.set (clock':=clock') (l:=[]) hk hc hw hu hb
 rwa [List.append_nil] at this
theorem Fr.setT (hk:k<s.tasks.length){t':Task}(hw:t'.way=(s.t k).way)(hu:t'.up=(s.t k).up)(hb:t'.body=(s.t k).body):Fr k s (s.setT k t'):=Fr.set0 hk rfl hw hu hb
theorem Fr.again (hk:k<s.tasks.length):Fr k s (againS s k):=Fr.set0 hk (by simp [freed]) rfl rfl rfl
theorem Fr.end_ (hk:k<s.tasks.length)(w:Int):Fr k s (endS s k w):=Fr.set hk rfl rfl rfl rfl
theorem Fr.deed (hk:k<s.tasks.length)(d:Deed):Fr k s (oneDeed s k d):=by
 unfold oneDeed
 dsimp only
 split
 ·unfold loadS
  dsimp only
  split
  ·exact Fr.setT hk rfl rfl rfl
  ·split
   ·exact Fr.again hk
   ·exact Fr.setT hk rfl rfl rfl
 ·split
  ·exact Fr.setT hk rfl rfl rfl
  ·split
   ·exact Fr.setT hk rfl rfl rfl
   ·split
    ·exact Fr.setT hk rfl rfl rfl
    ·split
     ·rw [againS_set,againS_t hk,if_pos rfl]
      exact Fr.set0 hk (by simp [freed]) rfl rfl rfl
     ·exact Fr.setT hk rfl rfl rfl
theorem Fr.write (hk:k<s.tasks.length):Fr k s (writeS s k):=by
 unfold writeS
 dsimp only
 split
 ·rw [endS_mk _ _ _ hk]
  exact Fr.set hk (by simp) rfl rfl rfl
 ·exact Fr.set0 hk (by simp) rfl rfl rfl
theorem Fr.try_ (hk:k<s.tasks.length)(ds:List Deed):Fr k s (tryS s k ds):=by
 unfold tryS
 dsimp only
 split
 ·exact Fr.setT hk rfl rfl rfl
 ·split
  ·unfold deedS
   dsimp only
   split
   ·split
    ·exact Fr.end_ hk _
    ·exact Fr.setT hk rfl rfl rfl
   ·exact Fr.deed hk _
  ·split
   ·unfold lockS
    dsimp only
    split
    ·exact Fr.again hk
    ·exact Fr.set0 hk (by simp) (by split<;>rfl) (by split<;>rfl) (by split<;>rfl)
   ·split
    ·exact Fr.set0 hk rfl rfl rfl rfl
    ·split
     ·unfold checkS
      dsimp only
      split
      ·exact Fr.setT hk rfl rfl rfl
      ·split
       ·exact Fr.again hk
       ·exact Fr.setT hk rfl rfl rfl
     ·exact Fr.write hk
theorem Fr.ways (h:Fr k s s')(j:Nat):(s'.t j).way=(s.t j).way∧(s'.t j).up=(s.t j).up∧(s'.t j).body=(s.t j).body:=by
 by_cases e:j=k
 ·subst e;exact⟨h.way,h.up,h.body⟩
 ·rw [h.out j e];exact⟨rfl,rfl,rfl⟩
theorem kidList_same (hn:s'.tasks.length=s.tasks.length)(hu:∀ j,(s'.t j).up=(s.t j).up)(i:Nat):kidList s' i=kidList s i:=by
 unfold kidList
 rw [hn]
 exact List.filter_congr fun j _=>by rw [hu j]
theorem mem_kidList {i j:Nat}:j ∈ kidList s i ↔ j<s.tasks.length∧(s.t j).up=i:=by
 unfold kidList
 simp [List.mem_filter]
theorem WInv.fr (h:WInv p s)(hk:k<s.tasks.length)(hf:Fr k s s')(hw:(s.t k).way=0):WInv p s':=by
 have hkl:=kidList_same hf.n (fun j=>(hf.ways j).2.1)
 refine⟨fun j h0 hj hl=>?_,fun j hj hj1=>?_⟩
 ·rw [hf.n] at hj
  rw [(hf.ways j).2.1,(hf.ways _).1]
  refine h.live j h0 hj ?_
  unfold isLive at hl ⊢
  rw [← (hf.ways j).1];exact hl
 ·rw [hf.n] at hj
  rw [(hf.ways j).1] at hj1
  have hne:j≠k:=fun e=>by subst e;omega
  rw [hkl,hf.out j hne]
  have:=h.waits j hj hj1
  have e:(kidList s j).filter (fun i=>decide ((s'.t i).way≠4))=(kidList s j).filter fun i=>decide ((s.t i).way≠4):=List.filter_congr fun i _=>by rw [(hf.ways i).1]
  rw [e];exact this
theorem way_t (hk:k<s.tasks.length)(w:Int)(j:Nat):(setWay s k w).t j=if j=k then { s.t k with way:=w } else s.t j:=t_set hk j
theorem WInv.stop (h:WInv p s)(hk:k<s.tasks.length)(hI:SInv p s)(hw:(s.t k).way=0)(w:Int)(hw2:w=2∨w=3):WInv p (setWay s k w):=by
 have hn:(setWay s k w).tasks.length=s.tasks.length:=List.length_set
 have hT:=way_t (s:=s) hk w
 have hu:∀ j,((setWay s k w).t j).up=(s.t j).up:=fun j=>by rw [hT];split<;>first | (rename_i e;rw [e];done) | rfl
 have hkl:=kidList_same hn hu
 refine⟨fun j h0 hj hl=>?_,fun j hj hj1=>?_⟩
 ·rw [hn] at hj
  have hne:j≠k:=fun e=>by subst e;rw [hT,if_pos rfl] at hl;unfold isLive at hl;simp at hl;omega
  rw [hT,if_neg hne] at hl
  have hl2:=h.live j h0 hj hl
  rw [hu]
  have hne2:(s.t j).up.toNat≠k:=fun e=>by rw [e] at hl2;omega
  rw [hT,if_neg hne2];exact hl2
 ·rw [hn] at hj
  have hne:j≠k:=fun e=>by subst e;rw [hT,if_pos rfl] at hj1;dsimp only at hj1;omega
  rw [hT,if_neg hne] at hj1
  rw [hkl,hT,if_neg hne]
  have:=h.waits j hj hj1
  have e:(kidList s j).filter (fun i=>decide (((setWay s k w).t i).way≠4))=(kidList s j).filter fun i=>decide ((s.t i).way≠4):=List.filter_congr fun i _=>by
   rw [hT]
   split
   ·rename_i e;subst e;dsimp only
    rw [decide_eq_true (by omega),decide_eq_true (by omega)]
   ·rfl
  rw [e];exact this
/-! ### Calling off -/
inductive Sub (s:Sys) (k:Nat):Nat→Prop
 | self:Sub s k k
 | kid {j u:Nat}:Sub s k u→j<s.tasks.length→(s.t j).up=(u:Int)→Sub s k j
theorem Sub.congr (hn:s'.tasks.length=s.tasks.length)(hu:∀ j,(s'.t j).up=(s.t j).up){j:Nat}(h:Sub s k j):Sub s' k j:=by
 induction h with
 | self=>exact .self
 | kid _ hj he ih=>exact .kid ih (by rw [hn];exact hj) (by rw [hu];exact he)
theorem Sub.ge (hI:SInv p s){j:Nat}(h:Sub s k j):k≤j:=by
 induction h with
 | self=>exact Nat.le_refl _
 | kid _ hj he ih =>
  rename_i j u _
  rcases Nat.eq_zero_or_pos j with h0 | h0
  ·subst h0;have:=hI.up0;omega
  ·have:=hI.up j h0 hj;omega
theorem Sub.down {c j:Nat}(h:Sub s c j)(hc:(s.t c).up=(k:Int))(hcl:c<s.tasks.length):Sub s k j:=by
 induction h with
 | self=>exact .kid .self hcl hc
 | kid _ hj he ih=>exact .kid ih hj he
theorem Sub.split {j:Nat}(h:Sub s k j):j=k∨∃ c ∈ kidList s k,Sub s c j:=by
 induction h with
 | self=>exact .inl rfl
 | kid _ hj he ih =>
  rename_i j u hs
  right
  rcases ih with e | ⟨c,hc,h⟩
  ·subst e;exact⟨j,mem_kidList.2 ⟨hj,he⟩,.self⟩
  ·exact⟨c,hc,.kid h hj he⟩
structure OffR (p:Prog) (s s':Sys) (U:Nat→Prop):Prop where
 inv:SInv p s'
 n:s'.tasks.length=s.tasks.length
 nc:s'.cells.length=s.cells.length
 up:∀ j,(s'.t j).up=(s.t j).up
 body:∀ j,(s'.t j).body=(s.t j).body
 out:∀ j,¬ U j→s'.t j=s.t j
 way:∀ j,(s'.t j).way=(s.t j).way∨(isLive (s.t j)=true∧(s'.t j).way=4)
 clock:s'.clock=s.clock
 log:∃ l,s'.log=s.log ++ l
theorem OffR.refl (h:SInv p s)(U:Nat→Prop):OffR p s s U:=⟨h,rfl,rfl,fun _=>rfl,fun _=>rfl,fun _ _=>rfl,fun _=>.inl rfl,rfl,[],by simp⟩
theorem isLive_4 {t:Task}(h:t.way=4):isLive t=false:=by unfold isLive;rw [h];rfl
theorem OffR.dead {U:Nat→Prop}(h:OffR p s s' U){j:Nat}(hd:isLive (s.t j)=false):isLive (s'.t j)=false:=by
 rcases h.way j with e | ⟨e,_⟩
 ·unfold isLive at hd ⊢;rw [e];exact hd
 ·rw [hd] at e;cases e
theorem OffR.trans {U V W:Nat→Prop}(h:OffR p s s' U)(g:OffR p s' s2 V)(hU:∀ j,U j→W j)(hV:∀ j,V j→W j):OffR p s s2 W :=
 ⟨g.inv,g.n.trans h.n,g.nc.trans h.nc,fun j=>(g.up j).trans (h.up j),fun j=>(g.body j).trans (h.body j),fun j hj=>(g.out j fun x=>hj (hV j x)).trans (h.out j fun x=>hj (hU j x)),fun j=>by
  rcases g.way j with e | ⟨e,e4⟩
  ·rcases h.way j with e2 | ⟨e2,e3⟩
   ·exact .inl (e.trans e2)
   ·exact .inr ⟨e2,e.trans e3⟩
  ·rcases h.way j with e2 | ⟨e2,e3⟩
   ·refine .inr ⟨?_,e4⟩
    unfold isLive at e ⊢;rw [← e2];exact e
   ·exact .inr ⟨e2,e4⟩,g.clock.trans h.clock,by
  obtain⟨l,e⟩:=h.log
  obtain⟨l2,e2⟩:=g.log
  exact⟨l ++ l2,by rw [e2,e,List.append_assoc]⟩⟩
theorem OffR.mono {U V:Nat→Prop}(h:OffR p s s' U)(hU:∀ j,U j→V j):OffR p s s' V:={ h with out:=fun j hj=>h.out j fun x=>hj (hU j x) }
theorem asc_len:∀ (l:List Put)(a n:Int),l.Pairwise (fun x y=>x.cell<y.cell)→(∀ x ∈ l,a≤x.cell∧x.cell<n)→a≤n→(l.length:Int)≤n-a:=by
 intro l
 induction l with
 | nil=>intro a n _ _ h;simp;omega
 | cons x r ih =>
  intro a n hp hm hn
  obtain⟨h1,h2⟩:=List.pairwise_cons.1 hp
  have hx:=hm x (List.mem_cons_self ..)
  have:=ih (x.cell+1) n h2 (fun y hy=>by have:=h1 y hy;have:=hm y (List.mem_cons_of_mem _ hy);omega) (by omega)
  rw [List.length_cons];omega
theorem puts_few (hI:SInv p s)(hk:k<s.tasks.length):(s.t k).puts.length≤3:=by
 have ht:=hI.t k hk
 have h1:=asc_len _ 0 s.cells.length (putsOk_sorted ht.puts) (fun x hx=>by have:=putsOk_mem ht.puts hx;omega) (by omega)
 have hf:formOk p=true:=by have:=hI.prog;unfold progOk at this;simp only [Bool.and_eq_true] at this;exact this.1
 have:=formOk_len hf
 have:=hI.cl
 omega
theorem write_clock (s:Sys)(k:Nat):(writeS s k).clock=s.clock:=by
 unfold writeS
 dsimp only
 split<;>rfl
theorem write_stage (hI:SInv p s)(hk:k<s.tasks.length)(hst:(s.t k).stage=5):((writeS s k).t k).stage=0∨(((writeS s k).t k).stage=5∧((writeS s k).t k).pos=(s.t k).pos+1∧((writeS s k).t k).puts=(s.t k).puts):=by
 unfold writeS
 dsimp only
 split
 ·left
  rw [endS_mk _ _ _ hk,t_set hk,if_pos rfl]
 ·right
  rw [t_set hk,if_pos rfl]
  exact⟨hst,rfl,rfl⟩
theorem writeAll_ok:∀ (n:Nat)(s:Sys),SInv p s→k<s.tasks.length→((s.t k).stage=5→((s.t k).puts.length:Int)-(s.t k).pos≤n) →
  SInv p (writeAll n s k)∧Fr k s (writeAll n s k)∧((writeAll n s k).t k).stage≠5∧(writeAll n s k).clock=s.clock:=by
 intro n
 induction n with
 | zero =>
  intro s hI hk h
  refine⟨hI,Fr.refl _ _,fun e=>?_,rfl⟩
  have:=(hI.t k hk).s5 e
  have:=h e
  omega
 | succ n ih =>
  intro s hI hk h
  unfold writeAll
  split
  ·rename_i e
   have hf:=Fr.write (s:=s) hk
   have:=ih (writeS s k) (hI.write hk e) (by rw [hf.n];exact hk) (fun e2=>by
    rcases write_stage hI hk e with h0 | ⟨_,h1,h2⟩
    ·omega
    ·rw [h1,h2];have:=h e;omega)
   exact⟨this.1,hf.trans this.2.1,this.2.2.1,this.2.2.2.trans (write_clock s k)⟩
  ·rename_i e;exact⟨hI,Fr.refl _ _,e,rfl⟩
theorem offSelf_ok (hI:SInv p s)(hk:k<s.tasks.length):OffR p s (offSelf s k) (·=k)∧isLive ((offSelf s k).t k)=false:=by
 unfold offSelf
 split
 ·rename_i hl
  dsimp only
  obtain⟨w1,w2,w3,w4⟩:=writeAll_ok (p:=p) (k:=k) 4 s hI hk (fun e=>by have:=puts_few hI hk;have:=(hI.t k hk).s5 e;omega)
  have hk1:k<(writeAll 4 s k).tasks.length:=by rw [w2.n];exact hk
  have key:∀ s2:Sys,SInv p s2→Fr k s s2→(s2.t k).stage=0→s2.clock=s.clock→OffR p s (setWay s2 k 4) (·=k)∧isLive ((setWay s2 k 4).t k)=false:=by
   intro s2 hI2 hf h0 hc
   have hk2:k<s2.tasks.length:=by rw [hf.n];exact hk
   have hT:=way_t (s:=s2) hk2 4
   have h4:((setWay s2 k 4).t k).way=4:=by rw [hT,if_pos rfl]
   refine⟨⟨hI2.way hk2 h0 4 (by omega) (by omega) (by omega),by rw [show (setWay s2 k 4).tasks.length=s2.tasks.length from List.length_set];exact hf.n,hf.nc,fun j=>?_,fun j=>?_,fun j hj=>by rw [hT,if_neg hj];exact hf.out j hj,fun j=>?_,hc,hf.log⟩,isLive_4 h4⟩
   ·rw [hT,← (hf.ways j).2.1];split<;>first | (rename_i e;rw [e];done) | rfl
   ·rw [hT,← (hf.ways j).2.2];split<;>first | (rename_i e;rw [e];done) | rfl
   ·by_cases e:j=k
    ·subst e;exact .inr ⟨hl,h4⟩
    ·rw [hT,if_neg e];exact .inl (hf.ways j).1
  split
  ·rename_i h0;exact key _ w1 w2 h0 w4
  ·refine key _ (w1.again hk1) (w2.trans (Fr.again hk1)) ?_ w4
   rw [againS_t hk1,if_pos rfl]
 ·rename_i hl
  exact⟨OffR.refl hI _,by simpa using hl⟩
theorem kids_after (hI:SInv p s)(hk:k<s.tasks.length):∀ c ∈ kidList s k,c<s.tasks.length∧k<c:=by
 intro c hc
 obtain⟨h1,h2⟩:=mem_kidList.1 hc
 rcases Nat.eq_zero_or_pos c with h0 | h0
 ·subst h0;have:=hI.up0;omega
 ·have:=hI.up c h0 h1;omega
theorem offS_ok:∀ (n:Nat)(s:Sys)(k:Nat),SInv p s→k<s.tasks.length→s.tasks.length-k≤n→OffR p s (offS n s k) (Sub s k)∧∀ j,Sub s k j→isLive ((offS n s k).t j)=false:=by
 intro n
 induction n with
 | zero=>intro s k _ hk h;omega
 | succ n ih =>
  intro s k hI hk hn
  unfold offS
  have key:∀ (l:List Nat) (s':Sys),SInv p s'→s'.tasks.length=s.tasks.length→(∀ c ∈ l,c<s'.tasks.length∧k<c)→OffR p s' (l.foldl (offS n) s') (fun j=>∃ c ∈ l,Sub s' c j)∧∀ j,(∃ c ∈ l,Sub s' c j)→isLive ((l.foldl (offS n) s').t j)=false:=by
   intro l
   induction l with
   | nil=>intro s' hI' _ _;exact⟨OffR.refl hI' _,by simp⟩
   | cons c r ihl =>
    intro s' hI' hlen hl
    have hc:=hl c (List.mem_cons_self ..)
    obtain⟨h1,h2⟩:=ih s' c hI' hc.1 (by omega)
    obtain⟨g1,g2⟩:=ihl (offS n s' c) h1.inv (h1.n.trans hlen) (fun d hd=>by rw [h1.n];exact hl d (List.mem_cons_of_mem _ hd))
    have hcg:∀ d j,Sub s' d j→Sub (offS n s' c) d j:=fun d j h=>Sub.congr h1.n h1.up h
    have hcg2:∀ d j,Sub (offS n s' c) d j→Sub s' d j:=fun d j h=>Sub.congr h1.n.symm (fun j=>(h1.up j).symm) h
    rw [List.foldl_cons]
    refine⟨h1.trans g1 (fun j h=>⟨c,List.mem_cons_self ..,h⟩) (fun j ⟨d,hd,h⟩=>⟨d,List.mem_cons_of_mem _ hd,hcg2 d j h⟩),fun j ⟨d,hd,h⟩=>?_⟩
    rcases List.mem_cons.1 hd with rfl | hd
    ·exact g1.dead (h2 j h)
    ·exact g2 j ⟨d,hd,hcg d j h⟩
  obtain⟨h1,h2⟩:=key (kidList s k) s hI rfl (kids_after hI hk)
  have hk1:k<((kidList s k).foldl (offS n) s).tasks.length:=by rw [h1.n];exact hk
  obtain⟨g1,g2⟩:=offSelf_ok (p:=p) h1.inv hk1
  refine⟨h1.trans g1 (fun j ⟨c,hc,h⟩=>h.down (mem_kidList.1 hc).2 (mem_kidList.1 hc).1) (fun j e=>by rw [e];exact .self),fun j h=>?_⟩
  rcases h.split with e | hc
  ·subst e;exact g2
  ·exact g1.dead (h2 j hc)
theorem offKids_ok (hI:SInv p s)(hk:k<s.tasks.length){n:Nat}(hn:s.tasks.length≤n) :
  OffR p s ((kidList s k).foldl (offS n) s) (fun j=>∃ c ∈ kidList s k,Sub s c j)∧∀ j,(∃ c ∈ kidList s k,Sub s c j)→isLive (((kidList s k).foldl (offS n) s).t j)=false:=by
 have key:∀ (l:List Nat) (s':Sys),SInv p s'→s'.tasks.length=s.tasks.length→(∀ c ∈ l,c<s'.tasks.length∧k<c)→OffR p s' (l.foldl (offS n) s') (fun j=>∃ c ∈ l,Sub s' c j)∧∀ j,(∃ c ∈ l,Sub s' c j)→isLive ((l.foldl (offS n) s').t j)=false:=by
  intro l
  induction l with
  | nil=>intro s' hI' _ _;exact⟨OffR.refl hI' _,by simp⟩
  | cons c r ihl =>
   intro s' hI' hlen hl
   have hc:=hl c (List.mem_cons_self ..)
   obtain⟨h1,h2⟩:=offS_ok n s' c hI' hc.1 (by omega)
   obtain⟨g1,g2⟩:=ihl (offS n s' c) h1.inv (h1.n.trans hlen) (fun d hd=>by rw [h1.n];exact hl d (List.mem_cons_of_mem _ hd))
   have hcg:∀ d j,Sub s' d j→Sub (offS n s' c) d j:=fun d j h=>Sub.congr h1.n h1.up h
   have hcg2:∀ d j,Sub (offS n s' c) d j→Sub s' d j:=fun d j h=>Sub.congr h1.n.symm (fun j=>(h1.up j).symm) h
   rw [List.foldl_cons]
   refine⟨h1.trans g1 (fun j h=>⟨c,List.mem_cons_self ..,h⟩) (fun j ⟨d,hd,h⟩=>⟨d,List.mem_cons_of_mem _ hd,hcg2 d j h⟩),fun j ⟨d,hd,h⟩=>?_⟩
   rcases List.mem_cons.1 hd with rfl | hd
   ·exact g1.dead (h2 j h)
   ·exact g2 j ⟨d,hd,hcg d j h⟩
 exact key (kidList s k) s hI rfl (kids_after hI hk)
theorem kid_ne (hI:SInv p s)(hk:k<s.tasks.length):¬ ∃ c ∈ kidList s k,Sub s c k:=by
 rintro ⟨c,hc,h⟩
 have:=kids_after hI hk c hc
 have:=h.ge hI
 omega
end
end Go.Proofs.YtjacjafmimgfcaaGreat
namespace Go.Proofs.YtjacjafmimgfcaaGreat
open Go.RowKit
inductive Role where
 | no | run | cells | tasks | log
 | tk (j f:Nat)
 | en (j f:Nat)
deriving DecidableEq
structure TV where
 t:Task
 r:Value
 o:Value
 d:Value
 u:Value
structure EV where
 e:Entry
 d:Value
 u:Value
def TV.enc (x:TV):List Value:=encTask x.t x.r x.o x.d x.u
def EV.enc (x:EV):List Value:=encEntry x.e x.d x.u
def kTV:Kd TV where
 sz:=13
 K:=fun _ _ x cs=>cs=x.enc∧x.r.oneCell'=true∧x.o.oneCell'=true∧x.d.oneCell'=true∧x.u.oneCell'=true
 len:=fun h=>by rw [h.1];rfl
 one:=by
  rintro w S x cs ⟨rfl,h1,h2,h3,h4⟩ v hv
  simp only [TV.enc,encTask,List.mem_cons,List.not_mem_nil,or_false] at hv
  rcases hv with rfl | rfl | rfl | rfl | rfl | rfl | rfl | rfl | rfl | rfl | rfl | rfl | rfl<;>first | rfl | assumption
 mono:=fun _ h=>h
 bound:=fun h=>h
 move:=fun _ h=>h
def kEV:Kd EV where
 sz:=6
 K:=fun _ _ x cs=>cs=x.enc∧x.d.oneCell'=true∧x.u.oneCell'=true
 len:=fun h=>by rw [h.1];rfl
 one:=by
  rintro w S x cs ⟨rfl,h1,h2⟩ v hv
  simp only [EV.enc,encEntry,List.mem_cons,List.not_mem_nil,or_false] at hv
  rcases hv with rfl | rfl | rfl | rfl | rfl | rfl<;>first | rfl | assumption
 mono:=fun _ h=>h
 bound:=fun h=>h
 move:=fun _ h=>h
theorem kTV_sz:kTV.sz=13:=rfl
def OwnF {α:Type} (d:Kd α) (e:Nat) (w:World) (base:Nat) (v:Value) (xs:List α):Prop:=Own d e w base (fun k=>v.ownBlock=some k) v xs
section
variable {α:Type}{d:Kd α}{e:Nat}{w w':World}{base:Nat}{v:Value}{xs:List α}{T:Nat→Prop}
theorem OwnF.step (h:OwnF d e w base v xs)(hm:∀ k,v.ownBlock=some k→k<w.heap.size→w'.heap[k]?=w.heap[k]?):OwnF d e w' base v xs:=Own.step h hm
theorem OwnF.belowAll (h:OwnF d e w base v xs)(hb:Below w.heap.size w w'):OwnF d e w' base v xs:=Own.belowAll h hb
theorem OwnF.lower {base':Nat}(hb:base'≤base)(h:OwnF d e w base v xs):OwnF d e w base' v xs:=Own.lower hb h
theorem OwnF.keep (h:OwnF d e w base v xs)(hk:Keep T w w')(hT:∀ k,v.ownBlock=some k→¬ T k):OwnF d e w' base v xs:=h.step fun k h1 h2=>hk.block k h2 (hT k h1)
theorem OwnF.far (h:OwnF d e w base v xs){p:Addr}(hne:∀ k,v.ownBlock=some k→k≠p.block)(u:Value):OwnF d e (w.setCell p u) base v xs:=h.step fun k h1 _=>Below.heap_setCell w p u k (hne k h1)
theorem OwnF.blk (h:OwnF d e w base v xs)(k:Nat)(hk:v.ownBlock=some k):base≤k∧k<w.heap.size:=⟨(Own.blk h k hk).1,(Own.blk h k hk).2.1⟩
theorem OwnF.one (h:OwnF d e w base v xs):v.oneCell'=true:=by obtain⟨A,c,rfl,_⟩:=Own.slice h;rfl
theorem OwnF.row (h:OwnF d e w base v xs):∃ A c,v=.slice A xs.length c∧xs.length≤c∧Row d w (fun k=>v.ownBlock=some k) A xs:=Own.row h
theorem OwnF.nil (d:Kd α)(e:Nat)(w:World)(base:Nat):OwnF d e w base (.slice none 0 0) []:=Own.nil _ _ _ _ _
end
def Kd.plain {α:Type} (d:Kd α):Prop:=∀ (w w':World) (S S':Nat→Prop) (x:α) (cs:List Value),d.K w S x cs→d.K w' S' x cs
theorem plain_int:Kd.int.plain:=fun _ _ _ _ _ _ h=>h
theorem plain_put:kPut.plain:=fun _ _ _ _ _ _ h=>h
theorem plain_cell:kCell.plain:=fun _ _ _ _ _ _ h=>h
theorem plain_tv:kTV.plain:=fun _ _ _ _ _ _ h=>h
theorem plain_ev:kEV.plain:=fun _ _ _ _ _ _ h=>h
theorem OwnF.of {α:Type}{d:Kd α}(hp:d.plain){e:Nat}{w:World}{base:Nat}{S:Nat→Prop}{v:Value}{xs:List α}(h:Own d e w base S v xs):OwnF d e w base v xs:=by
 obtain⟨css,h1,h2,h3,h4⟩:=h
 refine own_intro css h1 h2 (fun k hk=>hk) (fun j x hj=>?_)
 obtain⟨c,hc,hk⟩:=h4 j x hj
 exact⟨c,hc,hp _ _ _ _ _ _ hk⟩
structure TOwn (R:Nat→Role) (w:World) (base j:Nat) (x:TV):Prop where
 r:OwnF Kd.int 3 w base x.r x.t.regs
 o:OwnF Kd.int 3 w base x.o x.t.old
 d:OwnF kPut 127 w base x.d x.t.reads
 u:OwnF kPut 127 w base x.u x.t.puts
 Rr:∀ k,x.r.ownBlock=some k→R k=.tk j 0
 Ro:∀ k,x.o.ownBlock=some k→R k=.tk j 1
 Rd:∀ k,x.d.ownBlock=some k→R k=.tk j 2
 Ru:∀ k,x.u.ownBlock=some k→R k=.tk j 3
structure EOwn (R:Nat→Role) (w:World) (base j:Nat) (x:EV):Prop where
 d:OwnF kPut 127 w base x.d x.e.reads
 u:OwnF kPut 127 w base x.u x.e.puts
 Rd:∀ k,x.d.ownBlock=some k→R k=.en j 0
 Ru:∀ k,x.u.ownBlock=some k→R k=.en j 1
structure SysO (R:Nat→Role) (w:World) (base:Nat) (vc vt vl:Value) (s:Sys) (ts:List TV) (es:List EV):Prop where
 ets:ts.map TV.t=s.tasks
 ees:es.map EV.e=s.log
 c:OwnF kCell 130 w base vc s.cells
 t:OwnF kTV 118 w base vt ts
 l:OwnF kEV 68 w base vl es
 Rc:∀ k,vc.ownBlock=some k→R k=.cells
 Rt:∀ k,vt.ownBlock=some k→R k=.tasks
 Rl:∀ k,vl.ownBlock=some k→R k=.log
 tt:∀ j x,ts[j]?=some x→TOwn R w base j x
 ee:∀ j x,es[j]?=some x→EOwn R w base j x
 lt:∀ k,R k≠.no→k<w.heap.size
 ge:∀ k,R k≠.no→base≤k
section
variable {R R':Nat→Role}{w w':World}{base:Nat}{vc vt vl:Value}{s:Sys}{ts:List TV}{es:List EV}{j:Nat}{x:TV}
theorem TOwn.move (h:TOwn R w base j x)(hm:∀ k,R k≠.no→w'.heap[k]?=w.heap[k]?):TOwn R w' base j x :=
 ⟨h.r.step fun k hk _=>hm k (by rw [h.Rr k hk];exact Role.noConfusion),h.o.step fun k hk _=>hm k (by rw [h.Ro k hk];exact Role.noConfusion),h.d.step fun k hk _=>hm k (by rw [h.Rd k hk];exact Role.noConfusion),h.u.step fun k hk _=>hm k (by rw [h.Ru k hk];exact Role.noConfusion),h.Rr,h.Ro,h.Rd,h.Ru⟩
theorem EOwn.move {x:EV}(h:EOwn R w base j x)(hm:∀ k,R k≠.no→w'.heap[k]?=w.heap[k]?):EOwn R w' base j x :=
 ⟨h.d.step fun k hk _=>hm k (by rw [h.Rd k hk];exact Role.noConfusion),h.u.step fun k hk _=>hm k (by rw [h.Ru k hk];exact Role.noConfusion),h.Rd,h.Ru⟩
theorem SysO.move (h:SysO R w base vc vt vl s ts es)(hm:∀ k,R k≠.no→w'.heap[k]?=w.heap[k]?)(hs:w.heap.size≤w'.heap.size):SysO R w' base vc vt vl s ts es :=
 ⟨h.ets,h.ees,h.c.step fun k hk _=>hm k (by rw [h.Rc k hk];exact Role.noConfusion),h.t.step fun k hk _=>hm k (by rw [h.Rt k hk];exact Role.noConfusion),h.l.step fun k hk _=>hm k (by rw [h.Rl k hk];exact Role.noConfusion),h.Rc,h.Rt,h.Rl,fun j x hj=>(h.tt j x hj).move hm,fun j x hj=>(h.ee j x hj).move hm,fun k hk=>Nat.lt_of_lt_of_le (h.lt k hk) hs,h.ge⟩
theorem SysO.below (h:SysO R w base vc vt vl s ts es)(hb:Below w.heap.size w w'):SysO R w' base vc vt vl s ts es:=h.move (fun k hk=>hb.block k (h.lt k hk)) hb.size
theorem SysO.keep {T:Nat→Prop}(h:SysO R w base vc vt vl s ts es)(hk:Keep T w w')(hT:∀ k,R k≠.no→¬ T k):SysO R w' base vc vt vl s ts es:=h.move (fun k hr=>hk.block k (h.lt k hr) (hT k hr)) hk.size
theorem SysO.n (h:SysO R w base vc vt vl s ts es):ts.length=s.tasks.length:=by rw [← h.ets,List.length_map]
theorem SysO.m (h:SysO R w base vc vt vl s ts es):es.length=s.log.length:=by rw [← h.ees,List.length_map]
theorem SysO.at (h:SysO R w base vc vt vl s ts es)(hj:ts[j]?=some x):j<s.tasks.length∧s.t j=x.t:=by
 have hl:j<ts.length:=(List.getElem?_eq_some_iff.1 hj).1
 have hn:=h.n
 refine⟨by omega,?_⟩
 rw [sys_t (by omega)]
 have:s.tasks[j]?=some x.t:=by rw [← h.ets,List.getElem?_map,hj];rfl
 exact Option.some.inj ((List.getElem?_eq_getElem (by omega)).symm.trans this)
theorem SysO.has (h:SysO R w base vc vt vl s ts es)(hj:j<s.tasks.length):∃ x,ts[j]?=some x∧x.t=s.t j:=by
 have hn:=h.n
 refine⟨ts[j],List.getElem?_eq_getElem (by omega),(h.at (List.getElem?_eq_getElem (by omega))).2.symm⟩
/-! ### As it is read -/
theorem TOwn.kd (h:TOwn R w base j x):kTask.K w (fun k=>R k≠.no) x.t x.enc:=by
 have f:∀ {α:Type} {d:Kd α} {e:Nat} {v:Value} {xs:List α} {rl:Role},OwnF d e w base v xs→(∀ k,v.ownBlock=some k→R k=rl)→rl≠.no→(Kd.slice d).K w (fun k=>R k≠.no) xs [v]:=by
  intro α d e v xs rl ho hr hn
  obtain⟨A,c,rfl,hl,hrow⟩:=ho.row
  exact kSlice_mk hl (hrow.mono fun k hk=>by rw [hr k hk];exact hn)
 exact⟨_,_,_,_,rfl,f h.r h.Rr Role.noConfusion,f h.o h.Ro Role.noConfusion,f h.d h.Rd Role.noConfusion,f h.u h.Ru Role.noConfusion⟩
theorem EOwn.kd {x:EV}(h:EOwn R w base j x):kEntry.K w (fun k=>R k≠.no) x.e x.enc:=by
 have f:∀ {α:Type} {d:Kd α} {e:Nat} {v:Value} {xs:List α} {rl:Role},OwnF d e w base v xs→(∀ k,v.ownBlock=some k→R k=rl)→rl≠.no→(Kd.slice d).K w (fun k=>R k≠.no) xs [v]:=by
  intro α d e v xs rl ho hr hn
  obtain⟨A,c,rfl,hl,hrow⟩:=ho.row
  exact kSlice_mk hl (hrow.mono fun k hk=>by rw [hr k hk];exact hn)
 exact⟨_,_,rfl,f h.d h.Rd Role.noConfusion,f h.u h.Ru Role.noConfusion⟩
theorem row_map {α β:Type}{a:Kd α}{b:Kd β}{S S':Nat→Prop}{A:Option Addr}{xs:List α}(f:α→β)(hz:a.sz=b.sz)(h:Row a w S A xs)(hS:∀ k,S k→S' k)(hk:∀ (i:Nat)(x:α)(c:List Value),xs[i]?=some x→a.K w S x c→b.K w S' (f x) c):Row b w S' A (xs.map f):=by
 refine⟨by rw [List.length_map];exact h.1,fun hn=>?_⟩
 obtain⟨ad,e,hb,hl,hc⟩:=h.2 (fun e=>hn (by rw [e];rfl))
 refine⟨ad,e,hS _ hb,hl,fun i y hi=>?_⟩
 rw [List.getElem?_map] at hi
 obtain⟨x,hx,rfl⟩:=Option.map_eq_some_iff.1 hi
 obtain⟨c,h1,h2⟩:=hc i x hx
 exact⟨c,hk i x c hx h1,by rw [← hz];exact h2⟩
theorem SysO.read (h:SysO R w base vc vt vl s ts es):∃ A B C ca cb cc,vc=.slice A s.cells.length ca∧vt=.slice B s.tasks.length cb∧vl=.slice C s.log.length cc∧s.cells.length≤ca∧s.tasks.length≤cb∧s.log.length≤cc∧SysR w (fun k=>R k≠.no) s A B C:=by
 obtain⟨A,ca,e1,l1,r1⟩:=h.c.row
 obtain⟨B,cb,e2,l2,r2⟩:=h.t.row
 obtain⟨C,cc,e3,l3,r3⟩:=h.l.row
 have hn:=h.n
 have hm:=h.m
 refine⟨A,B,C,ca,cb,cc,e1,by rw [← hn];exact e2,by rw [← hm];exact e3,l1,by omega,by omega,⟨r1.mono fun k hk=>by rw [h.Rc k hk];exact Role.noConfusion,?_,?_⟩⟩
 ·rw [← h.ets]
  refine row_map TV.t rfl r2 (fun k hk=>by rw [h.Rt k hk];exact Role.noConfusion) fun i x c hi hc=>?_
  obtain⟨rfl,_⟩:=hc
  exact(h.tt i x hi).kd
 ·rw [← h.ees]
  refine row_map EV.e rfl r3 (fun k hk=>by rw [h.Rl k hk];exact Role.noConfusion) fun i x c hi hc=>?_
  obtain⟨rfl,_⟩:=hc
  exact(h.ee i x hi).kd
end
end Go.Proofs.YtjacjafmimgfcaaGreat
