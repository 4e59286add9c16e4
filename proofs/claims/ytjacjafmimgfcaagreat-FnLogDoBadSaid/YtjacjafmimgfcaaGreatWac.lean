/- Rows of the call's own: a cell read, a cell written; rows of numbers.; What a call leaves as it was: all old blocks but some.; The reader of draws: a number is picked.; Draws: a reader is opened; a deed is drawn. -/
import Derived.Laws.BitsAllLaws
import Derived.Laws.BitsLemmas
import Derived.Test.YtjacjafmimgfcaaGreatWaa
import Derived.Test.YtjacjafmimgfcaaGreatWab
set_option maxHeartbeats 4000000
set_option maxRecDepth 100000
set_option linter.unusedVariables false
set_option linter.unusedSimpArgs false
namespace Go.Proofs.YtjacjafmimgfcaaGreat
open Go.RowKit
theorem flatten_set {sz:Nat}:∀ (css:List (List Value)),(∀ c ∈ css,c.length=sz)→∀ (j i:Nat)(u:Value)(c:List Value),css[j]?=some c→i<sz→css.flatten.set (j*sz+i) u=(css.set j (c.set i u)).flatten:=by
 intro css
 induction css with
 | nil=>intro _ j i u c h;simp at h
 | cons a r ih =>
  intro hl j i u c hj hi
  have ha:a.length=sz:=hl a (List.mem_cons_self ..)
  cases j with
  | zero =>
   simp at hj;subst hj
   rw [List.flatten_cons,Nat.zero_mul,Nat.zero_add,List.set_append_left _ _ (by omega)]
   simp
  | succ j =>
   have hj':r[j]?=some c:=by simpa using hj
   have:=ih (fun c hc=>hl c (List.mem_cons_of_mem _ hc)) j i u c hj' hi
   rw [List.flatten_cons,List.set_append_right _ _ (by rw [ha,Nat.succ_mul];omega),List.set_cons_succ,List.flatten_cons,← this,ha]
   congr 2;rw [Nat.succ_mul];omega
section
variable {α:Type}{d:Kd α}{e:Nat}{w:World}{base:Nat}{S:Nat→Prop}{v:Value}{xs:List α}
theorem Own.place (h:Own d e w base S v xs)(hn:0<xs.length):∃ g cap,v=.slice (some ⟨g,0,none⟩) xs.length cap∧base≤g∧g<w.heap.size∧S g∧xs.length≤cap:=by
 have hb:=h.blk
 obtain⟨A,c,hv,hc⟩:=h.slice
 obtain⟨css,h1,_⟩:=h
 obtain⟨g,cap,he,h2,h3⟩:=h1.form hn
 rw [hv] at he
 injection he with e1 e2 e3
 subst e1;subst e3
 have:=hb g (by rw [hv];rfl)
 exact⟨g,c,hv,this.1,this.2.1,this.2.2,hc⟩
theorem Own.cellAt {g cap:Nat}(h:Own d e w base S (.slice (some ⟨g,0,none⟩) xs.length cap) xs){j:Nat}(hj:j<xs.length) :
  ∃ c,d.K w (fun k=>S k∧k≠g) xs[j] c∧(∀ i u,c[i]?=some u→w.cell? ⟨g,j*d.sz+i,none⟩=some u)∧∀ i,w.frozen? ⟨g,i,none⟩=false:=by
 obtain⟨css,h1,h2,hl,h3,h4⟩:=h.lens
 obtain⟨c,hc,hk⟩:=h4 j _ (List.getElem?_eq_getElem hj)
 refine⟨c,d.mono (fun k hk=>⟨hk.1,fun e=>hk.2 (by rw [e];rfl)⟩) hk,fun i u hu=>?_,fun i=>h1.frozenAt i⟩
 have:=h1.cells (g:=g) rfl _ _ (flatten_at css hl j i c u hc hu)
 have e0:(⟨g,0,none⟩:Addr).add (j*d.sz+i)=⟨g,j*d.sz+i,none⟩:=by unfold Addr.add;split<;>simp_all
 rwa [e0] at this
theorem Own.setAt {g cap:Nat}(h:Own d e w base S (.slice (some ⟨g,0,none⟩) xs.length cap) xs){j:Nat}(hj:j<xs.length){i:Nat}(hi:i<d.sz)(u:Value)(y:α)
  (hy:∀ c,d.K w (fun k=>S k∧k≠g) xs[j] c→d.K w (fun k=>S k∧k≠g) y (c.set i u)) :
  Own d e (w.setCell ⟨g,j*d.sz+i,none⟩ u) base S (.slice (some ⟨g,0,none⟩) xs.length cap) (xs.set j y):=by
 obtain⟨css,h1,h2,hl,h3,h4⟩:=h.lens
 obtain⟨c,hc,hk⟩:=h4 j _ (List.getElem?_eq_getElem hj)
 have hfar:∀ (x:α) (c:List Value),d.K w (fun k=>S k∧some k≠Value.ownBlock (.slice (some ⟨g,0,none⟩) xs.length cap)) x c→d.K (w.setCell ⟨g,j*d.sz+i,none⟩ u) (fun k=>S k∧some k≠Value.ownBlock (.slice (some ⟨g,0,none⟩) xs.length cap)) x c :=
  fun x c h=>d.move (fun k hk=>Below.heap_setCell w _ u k (fun e=>hk.2 (by rw [e];rfl))) h
 have hst:=h1.stored (j*d.sz+i) u
 rw [flatten_set css hl j i u c hc hi] at hst
 have ho:(w.setCell ⟨g,j*d.sz+i,none⟩ u).ownsRow base e d.sz (.slice (some ⟨g,0,none⟩) xs.length cap) (xs.set j y).length (css.set j (c.set i u)).flatten:=by rw [List.length_set];exact hst.1
 refine own_intro (css.set j (c.set i u)) ho (by simp [h2]) h3 (fun q x hq=>?_)
 rw [List.getElem?_set] at hq
 rw [List.getElem?_set]
 by_cases hjq:j=q
 ·subst hjq
  rw [if_pos rfl,if_pos (by omega)]
  rw [if_pos rfl,if_pos hj] at hq
  injection hq with hq
  subst hq
  refine⟨_,rfl,hfar _ _ ?_⟩
  refine d.mono (fun k hk=>⟨hk.1,fun e=>?_⟩) (hy c (d.mono (fun k hk=>⟨hk.1,fun e=>hk.2 (by rw [e];rfl)⟩) hk))
  injection e with e
  exact hk.2 e
 ·rw [if_neg hjq]
  rw [if_neg hjq] at hq
  obtain⟨c',hc',hk'⟩:=h4 q x hq
  exact⟨c',hc',hfar _ _ hk'⟩
end
def isI (n:Int):Prop:=-9223372036854775808≤n∧n≤9223372036854775807
def OwnI (e:Nat) (w:World) (base:Nat) (v:Value) (xs:List Int):Prop:=Own Kd.int e w base (fun k=>v.ownBlock=some k) v xs
section
variable {e:Nat}{w w':World}{base:Nat}{S:Nat→Prop}{v:Value}{xs:List Int}
theorem OwnI.of (h:Own Kd.int e w base S v xs):OwnI e w base v xs:=by
 obtain⟨css,h1,h2,h3,h4⟩:=h
 refine own_intro css h1 h2 (fun k hk=>hk) (fun j x hj=>?_)
 obtain⟨c,hc,hk⟩:=h4 j x hj
 exact⟨c,hc,hk⟩
theorem OwnI.move (hm:∀ k,v.ownBlock=some k→w'.heap[k]?=w.heap[k]?)(h:OwnI e w base v xs):OwnI e w' base v xs:=Own.move hm h
theorem OwnI.step (h:OwnI e w base v xs)(hm:∀ k,v.ownBlock=some k→k<w.heap.size→w'.heap[k]?=w.heap[k]?):OwnI e w' base v xs:=Own.step h hm
theorem OwnI.belowAll (h:OwnI e w base v xs)(hb:Below w.heap.size w w'):OwnI e w' base v xs:=Own.belowAll h hb
theorem OwnI.place (h:OwnI e w base v xs)(hn:0<xs.length):∃ g cap,v=.slice (some ⟨g,0,none⟩) xs.length cap∧base≤g∧g<w.heap.size:=by
 obtain⟨g,cap,hv,h1,h2,_⟩:=Own.place h hn
 exact⟨g,cap,hv,h1,h2⟩
theorem OwnI.all (h:OwnI e w base v xs)(j:Nat)(hj:j<xs.length):isI xs[j]:=by
 obtain⟨css,h1,h2,h3,h4⟩:=h
 obtain⟨c,hc,_,hk⟩:=h4 j _ (List.getElem?_eq_getElem hj)
 exact hk
theorem OwnI.cell {g cap:Nat}(h:OwnI e w base (.slice (some ⟨g,0,none⟩) xs.length cap) xs){j:Nat}(hj:j<xs.length):w.cell? ⟨g,j,none⟩=some (.int .i64 xs[j])∧w.frozen? ⟨g,j,none⟩=false:=by
 obtain⟨c,⟨rfl,_⟩,hc,hf⟩:=Own.cellAt h hj
 have:=hc 0 _ rfl
 have hs:Kd.int.sz=1:=rfl
 rw [hs,Nat.mul_one,Nat.add_zero] at this
 exact⟨this,hf j⟩
theorem OwnI.set_ {g cap:Nat}(h:OwnI e w base (.slice (some ⟨g,0,none⟩) xs.length cap) xs){j:Nat}(hj:j<xs.length)(n:Int)(hn:isI n) :
  OwnI e (w.setCell ⟨g,j,none⟩ (.int .i64 n)) base (.slice (some ⟨g,0,none⟩) xs.length cap) (xs.set j n):=by
 have:=Own.setAt h hj (i:=0) (by decide) (.int .i64 n) n (fun c hc=>by
  obtain⟨rfl,_⟩:=hc
  exact⟨rfl,hn⟩)
 have hs:Kd.int.sz=1:=rfl
 rw [hs,Nat.mul_one,Nat.add_zero] at this
 exact this
theorem OwnI.row (h:OwnI e w base v xs):∃ A c,v=.slice A xs.length c∧xs.length≤c∧Row Kd.int w (fun k=>v.ownBlock=some k) A xs:=Own.row h
theorem OwnI.blk (h:OwnI e w base v xs)(k:Nat)(hk:v.ownBlock=some k):base≤k∧k<w.heap.size:=⟨(Own.blk h k hk).1,(Own.blk h k hk).2.1⟩
theorem OwnI.lower {base':Nat}(hb:base'≤base)(h:OwnI e w base v xs):OwnI e w base' v xs:=Own.lower hb h
theorem OwnI.al (h:OwnI e w base v xs)(o:Obj):OwnI e (w.alloc o) base v xs:=h.step fun k _ hk=>Below.heap_alloc w o k hk
theorem OwnI.drewN (h:OwnI e w base v xs)(n:Nat):OwnI e (w.drewN n) base v xs:=Own.drewN h n
theorem OwnI.grown (h:OwnI e w base v xs){row:Option Nat}(hg:w.grownBy w' row)(hne:∀ k,v.ownBlock=some k→some k≠row):OwnI e w' base v xs:=h.step fun k h1 h2=>hg.block k h2 (hne k h1)
theorem grown_al {row:Option Nat}(h:w.grownBy w' row)(o:Obj):w.grownBy (w'.alloc o) row :=
 ⟨h.os,h.tape,h.output,Nat.le_trans h.size (by simp),fun i hi hne=>(Below.heap_alloc w' o i (Nat.lt_of_lt_of_le hi h.size)).trans (h.block i hi hne)⟩
theorem grown_refl (w:World)(row:Option Nat):w.grownBy w row:=⟨rfl,rfl,rfl,Nat.le_refl _,fun _ _ _=>rfl⟩
theorem grown_set {g:Nat}(h:w.grownBy w' (some g))(i:Nat)(u:Value):w.grownBy (w'.setCell ⟨g,i,none⟩ u) (some g) :=
 ⟨h.os,h.tape,h.output,by simpa [World.setCell] using h.size,fun k hk hne=>(Below.heap_setCell w' _ u k (fun e=>hne (by rw [e]))).trans (h.block k hk hne)⟩
theorem grown_drewN {row:Option Nat}(h:w.grownBy w' row)(n:Nat):w.grownBy (w'.drewN n) row:=⟨h.os,h.tape,h.output,h.size,h.block⟩
theorem OwnI.far (h:OwnI e w base v xs){p:Addr}(hne:∀ k,v.ownBlock=some k→k≠p.block)(u:Value):OwnI e (w.setCell p u) base v xs:=h.step fun k h1 _=>Below.heap_setCell w p u k (hne k h1)
theorem ownI_empty (e:Nat)(w:World)(base:Nat)(hb:base≤w.heap.size):OwnI e (w.alloc (.cells #[] e)) base (.slice (some ⟨w.heap.size,0,none⟩) 0 0) []:=OwnI.of (Own.empty_ _ _ _ _ (fun _=>True) hb trivial)
theorem ownI_empty2 (e:Nat)(w:World)(base:Nat)(o:Obj)(hb:base≤w.heap.size):OwnI e ((w.alloc o).alloc (.cells #[] e)) base (.slice (some ⟨w.heap.size+1,0,none⟩) 0 0) []:=by
 have:=ownI_empty e (w.alloc o) base (by simp;omega)
 simpa using this
theorem OwnI.nil (e:Nat)(w:World)(base:Nat):OwnI e w base (.slice none 0 0) []:=Own.nil _ _ _ _ _
end
end Go.Proofs.YtjacjafmimgfcaaGreat
namespace Go.Proofs.YtjacjafmimgfcaaGreat
open Go.RowKit
structure Keep (T:Nat→Prop) (w w':World):Prop where
 os:w'.os=w.os
 tape:w'.tape=w.tape
 output:w'.output=w.output
 size:w.heap.size≤w'.heap.size
 block:∀ k,k<w.heap.size→¬ T k→w'.heap[k]?=w.heap[k]?
section
variable {T T':Nat→Prop}{w w' w2:World}
theorem Keep.refl (T:Nat→Prop)(w:World):Keep T w w:=⟨rfl,rfl,rfl,Nat.le_refl _,fun _ _ _=>rfl⟩
theorem Keep.trans (h:Keep T w w')(k:Keep T w' w2):Keep T w w2 :=
 ⟨k.os.trans h.os,k.tape.trans h.tape,k.output.trans h.output,Nat.le_trans h.size k.size,fun i hi hT=>(k.block i (Nat.lt_of_lt_of_le hi h.size) hT).trans (h.block i hi hT)⟩
theorem Keep.then_ (h:Keep T w w')(k:Keep T' w' w2)(hT:∀ i,i<w.heap.size→T' i→T i):Keep T w w2 :=
 ⟨k.os.trans h.os,k.tape.trans h.tape,k.output.trans h.output,Nat.le_trans h.size k.size,fun i hi hn=>(k.block i (Nat.lt_of_lt_of_le hi h.size) (fun h=>hn (hT i hi h))).trans (h.block i hi hn)⟩
theorem Keep.mono (h:Keep T w w')(hT:∀ k,T k→T' k):Keep T' w w':=⟨h.os,h.tape,h.output,h.size,fun i hi hn=>h.block i hi fun h=>hn (hT i h)⟩
theorem Keep.alloc (h:Keep T w w')(o:Obj):Keep T w (w'.alloc o):=h.trans ⟨rfl,rfl,rfl,by simp,fun k hk _=>Below.heap_alloc _ _ _ hk⟩
theorem Keep.drewN (h:Keep T w w')(n:Nat):Keep T w (w'.drewN n):=⟨h.os,h.tape,h.output,h.size,h.block⟩
theorem Keep.drew (h:Keep T w w'):Keep T w w'.drew:=⟨h.os,h.tape,h.output,h.size,h.block⟩
theorem Keep.setCell (h:Keep T w w'){p:Addr}(hp:p.block<w.heap.size→T p.block)(u:Value):Keep T w (w'.setCell p u) :=
 ⟨h.os,h.tape,h.output,by simpa [World.setCell] using h.size,fun k hk hn=>(Below.heap_setCell w' p u k (fun e=>hn (by rw [e];exact hp (by omega)))).trans (h.block k hk hn)⟩
theorem Keep.of_below {B:Nat}(h:Below B w w')(hB:∀ k,B≤k→k<w.heap.size→T k):Keep T w w' :=
 ⟨h.os,h.tape,h.output,h.size,fun k hk hn=>by
  rcases Nat.lt_or_ge k B with h1 | h1
  ·exact h.block k h1
  ·exact absurd (hB k h1 hk) hn⟩
theorem Keep.of_belowAll (T:Nat→Prop)(h:Below w.heap.size w w'):Keep T w w':=⟨h.os,h.tape,h.output,h.size,fun k hk _=>h.block k hk⟩
theorem Keep.of_grown {row:Option Nat}(h:w.grownBy w' row)(hr:∀ k,row=some k→T k):Keep T w w':=⟨h.os,h.tape,h.output,h.size,fun k hk hn=>h.block k hk (fun e=>hn (hr k e.symm))⟩
theorem Keep.below {B:Nat}(h:Keep T w w')(hB:∀ k,k<B→¬ T k)(hs:B≤w.heap.size):Below B w w':=⟨h.os,h.tape,h.output,h.size,fun k hk=>h.block k (by omega) (hB k hk)⟩
theorem Keep.belowAll (h:Keep (fun _=>False) w w'):Below w.heap.size w w':=⟨h.os,h.tape,h.output,h.size,fun k hk=>h.block k hk (fun h=>h)⟩
theorem Keep.cell (h:Keep T w w'){p:Addr}(hp:p.block<w.heap.size)(hT:¬ T p.block):w'.cell? p=w.cell? p:=World.cell?_of_block (w:=w) (h.block p.block hp hT)
theorem Keep.frozen (h:Keep T w w'){p:Addr}(hp:p.block<w.heap.size)(hT:¬ T p.block):w'.frozen? p=w.frozen? p:=World.frozen?_of_block (w:=w) (h.block p.block hp hT)
theorem Keep.blk (h:Keep T w w'){k:Nat}{o:Obj}(hk:w.heap[k]?=some o)(hT:¬ T k):w'.heap[k]?=some o:=(h.block k (Array.getElem?_eq_some_iff.1 hk).1 hT).trans hk
theorem OwnI.keep {e base:Nat}{v:Value}{xs:List Int}(h:OwnI e w base v xs)(hk:Keep T w w')(hT:∀ k,v.ownBlock=some k→¬ T k):OwnI e w' base v xs:=h.step fun k h1 h2=>hk.block k h2 (hT k h1)
theorem Row.keep {α:Type}{d:Kd α}{S:Nat→Prop}{A:Option Addr}{xs:List α}(h:Row d w S A xs)(hk:Keep T w w')(hT:∀ k,S k→k<w.heap.size→¬ T k):Row d w' S A xs:=h.step fun k h1 h2=>hk.block k h2 (hT k h1 h2)
theorem Kd.keep {α:Type}{d:Kd α}{S:Nat→Prop}{x:α}{cs:List Value}(h:d.K w S x cs)(hk:Keep T w w')(hT:∀ k,S k→k<w.heap.size→¬ T k):d.K w' S x cs:=Kd.step h fun k h1 h2=>hk.block k h2 (hT k h1 h2)
end
end Go.Proofs.YtjacjafmimgfcaaGreat
namespace Go.Proofs.YtjacjafmimgfcaaGreat
open Go.RowKit
structure RdAt (w:World) (g:Nat) (S:Nat→Prop) (A:Option Addr) (c:Nat) (bs:List Int) (f:Nat):Prop where
 st:∃ p:Nat,w.heap[g]?=some (.cells #[.slice A bs.length c,.int .i64 (p:Nat)] 151 (0,0))∧p+f≤1099511627776
 row:Row Kd.byte w S A bs
 ne:∀ k,S k→k<g
 len:bs.length≤2000
section
variable {w w':World}{g:Nat}{S:Nat→Prop}{A:Option Addr}{c:Nat}{bs:List Int}{f:Nat}
theorem RdAt.lt (h:RdAt w g S A c bs f):g<w.heap.size:=by
 obtain⟨p,hb,_⟩:=h.st
 exact(Array.getElem?_eq_some_iff.1 hb).1
theorem RdAt.keep {T:Nat→Prop}(h:RdAt w g S A c bs f)(hk:Keep T w w')(hg:¬ T g)(hS:∀ k,S k→k<w.heap.size→¬ T k):RdAt w' g S A c bs f:=by
 obtain⟨p,hb,hp⟩:=h.st
 exact⟨⟨p,hk.blk hb hg,hp⟩,h.row.keep hk hS,h.ne,h.len⟩
theorem RdAt.below (h:RdAt w g S A c bs f)(hb:Below w.heap.size w w'):RdAt w' g S A c bs f:=h.keep (Keep.of_belowAll (fun _=>False) hb) (fun h=>h) (fun _ _ _ h=>h)
theorem RdAt.set (h:RdAt w g S A c bs f){p:Addr}(hp:g<p.block)(u:Value):RdAt (w.setCell p u) g S A c bs f :=
 h.keep (T:=fun k=>k=p.block) (Keep.setCell (T:=fun k=>k=p.block) (p:=p) (Keep.refl _ _) (fun _=>rfl) u) (by omega) (fun k hs _ e=>by have:=h.ne k hs;omega)
theorem RdAt.less (h:RdAt w g S A c bs f){f':Nat}(hf:f'≤f):RdAt w g S A c bs f':=by
 obtain⟨p,hb,hp⟩:=h.st
 exact⟨⟨p,hb,by omega⟩,h.row,h.ne,h.len⟩
end
theorem at_byte {w:World}{S:Nat→Prop}{A:Option Addr}{xs:List Int}{j:Nat}(h:Row Kd.byte w S A xs)(hj:j<xs.length):∃ ad,A=some ad∧S ad.block∧ad.block<w.heap.size∧w.cell? (ad.add j)=some (.int .u8 xs[j])∧0≤xs[j]∧xs[j]≤255:=by
 obtain⟨ad,c,rfl,hs,hl,⟨rfl,hk⟩,hc⟩:=h.get hj
 refine⟨ad,rfl,hs,hl,?_,hk⟩
 have:=hc 0 _ rfl
 have e:Kd.byte.sz=1:=rfl
 simpa [e] using this
def Picked (n:Int) (w:World) (g:Nat) (S:Nat→Prop) (A:Option Addr) (c:Nat) (bs:List Int) (f:Nat) (e:Ending) (w':World):Prop :=
 ∃ x:Int,e=.returned (.int .i64 x)∧0≤x∧(x<n∨x=0)∧RdAt w' g S A c bs f∧Keep (fun k=>k=g) w w'
theorem xor_small (x:Nat)(hx:x<9223372036854775808):∃ y:Nat,bits .xor .i64 (x:Int) ((x / 64:Nat):Int)=(y:Int)∧y<9223372036854775808:=by
 have hz:x / 64<9223372036854775808:=by omega
 have h1:x ^^^ (x / 64)<2 ^ 63:=Nat.xor_lt_two_pow (by omega) (by omega)
 refine⟨x ^^^ (x / 64),?_,by omega⟩
 have o:∀ a:Nat,a<9223372036854775808→(BitVec.ofInt 64 (a:Int)).toNat=a:=fun a ha=>by
  rw [BitVec.ofInt_natCast,BitVec.toNat_ofNat];exact Nat.mod_eq_of_lt (by omega)
 show IntKind.i64.wrap ((BitVec.ofInt 64 (x:Int) ^^^ BitVec.ofInt 64 ((x / 64:Nat):Int)).toNat:Int)=_
 rw [BitVec.toNat_xor,o x hx,o _ hz,IntKind.wrap_i64]
 omega
theorem pick_calls (n:Int)(w:World)(g:Nat)(S:Nat→Prop)(A:Option Addr)(c:Nat)(bs:List Int)(f:Nat)(h:RdAt w g S A c bs (f+1))(hn:n≤9223372036854775807) :
  Calls Tryz.prog 64 #[.pointer (some ⟨g,0,none⟩),.int .i64 n] w (Picked n w g S A c bs f):=by
 obtain⟨p,hb,hp⟩:=h.st
 have hlen:=h.len
 have c0:w.cell? ⟨g,0,none⟩=some (.slice A bs.length c):=by rw [cell_of_row w g 0 _ _ _ hb];rfl
 have c1:w.cell? ⟨g,1,none⟩=some (.int .i64 (p:Nat)):=by rw [cell_of_row w g 1 _ _ _ hb];rfl
 have f1:w.frozen? ⟨g,1,none⟩=false:=by simp [World.frozen?,hb]
 have hk1:Keep (fun k=>k=g) w (w.setCell ⟨g,1,none⟩ (.int .i64 ((p:Int)+1))):=Keep.setCell (T:=fun k=>k=g) (p:=⟨g,1,none⟩) (Keep.refl _ _) (fun _=>rfl) _
 have hr1:RdAt (w.setCell ⟨g,1,none⟩ (.int .i64 ((p:Int)+1))) g S A c bs f:=by
  refine⟨⟨p+1,?_,by omega⟩,h.row.keep hk1 (fun k hs _=>Nat.ne_of_lt (h.ne k hs)),h.ne,hlen⟩
  simp [World.setCell,Array.getElem?_modify,hb]
 have hrow:=hr1.row
 have hgl:=h.lt
 by_cases h1:n<1
 ·go_enter Tryz.func64,Tryz.ntmps64
  go_wp2
  go_ret
  exact⟨0,rfl,by omega,.inr rfl,hr1,hk1⟩
 ·by_cases h0:bs.length=0
  ·rw [h0] at c0
   go_enter Tryz.func64,Tryz.ntmps64
   go_wp2
   go_ret
   exact⟨0,rfl,by omega,.inr rfl,hr1,hk1⟩
  ·have h0b:((bs.length:Int) == 0)=false:=beq_eq_false_iff_ne.2 (by omega)
   by_cases hlt:p<bs.length
   ·obtain⟨ad,rfl,hs,hl,hc,hx1,hx2⟩:=at_byte hrow hlt
    have hne:=Nat.ne_of_lt (h.ne _ hs)
    have hcw:w.cell? (ad.add p)=some (.int .u8 bs[p]):=by
     rw [← hc];exact(World.cell?_of_block (Below.heap_setCell w _ _ _ (by rw [block_add];exact hne))).symm
    have hmod:bs[p] % n<n:=Int.emod_lt_of_pos _ (show 0<n by omega)
    have hmod0:0≤bs[p] % n:=Int.emod_nonneg _ (show n≠0 by omega)
    go_enter Tryz.func64,Tryz.ntmps64
    go_wp2
    go_ret
    exact⟨_,rfl,hmod0,.inl hmod,hr1,hk1⟩
   ·have hL:0<bs.length:=by omega
    obtain⟨i1,hi1⟩:∃ i,i=p % bs.length:=⟨_,rfl⟩
    obtain⟨i2,hi2⟩:∃ i,i=(p*7+3) % bs.length:=⟨_,rfl⟩
    obtain⟨q1,hq1⟩:∃ q,q=p / bs.length:=⟨_,rfl⟩
    have hl1:i1<bs.length:=by rw [hi1];exact Nat.mod_lt _ hL
    have hl2:i2<bs.length:=by rw [hi2];exact Nat.mod_lt _ hL
    have hq2:q1≤p:=by rw [hq1];exact Nat.div_le_self _ _
    obtain⟨ad,rfl,hs,hl,hc,hx1,hx2⟩:=at_byte hrow hl1
    obtain⟨ad',hade,_,_,hc',hy1,hy2⟩:=at_byte hrow hl2
    injection hade with hade
    subst hade
    have hne:=Nat.ne_of_lt (h.ne _ hs)
    obtain⟨b1,hb1⟩:∃ b,b=bs[i1]:=⟨_,rfl⟩
    obtain⟨b2,hb2⟩:∃ b,b=bs[i2]:=⟨_,rfl⟩
    rw [← hb1] at hc hx1 hx2
    rw [← hb2] at hc' hy1 hy2
    have hm1:(p:Int).tmod (bs.length:Int)=((i1:Nat):Int):=by rw [Int.tmod_eq_emod_of_nonneg (by omega),hi1];simp
    have hm2:((p:Int)*7+3).tmod (bs.length:Int)=((i2:Nat):Int):=by rw [Int.tmod_eq_emod_of_nonneg (by omega),hi2];simp
    have hm3:(p:Int).tdiv (bs.length:Int)=((q1:Nat):Int):=by rw [Int.tdiv_eq_ediv_of_nonneg (by omega),hq1];simp
    have l1:(i1:Int)<bs.length:=by omega
    have l2:(i2:Int)<bs.length:=by omega
    have l3:(0:Int)≤i1:=by omega
    have l4:(0:Int)≤i2:=by omega
    have l5:(bs.length:Int)≠0:=by omega
    have l6:((bs.length:Int) == 0)=false:=beq_eq_false_iff_ne.2 l5
    have w1:IntKind.i64.wrap ((p:Int)*7)=(p:Int)*7:=IntWalk.i64_in _ (by omega)
    have w2:IntKind.i64.wrap ((p:Int)*7+3)=(p:Int)*7+3:=IntWalk.i64_in _ (by omega)
    have w3:IntKind.i64.wrap b1=b1:=IntWalk.i64_in _ (by omega)
    have w4:IntKind.i64.wrap b2=b2:=IntWalk.i64_in _ (by omega)
    have w5:IntKind.i64.wrap (b1*131)=b1*131:=IntWalk.i64_in _ (by omega)
    have w6:IntKind.i64.wrap (b2*1117)=b2*1117:=IntWalk.i64_in _ (by omega)
    have w7:IntKind.i64.wrap (b1*131+b2*1117)=b1*131+b2*1117:=IntWalk.i64_in _ (by omega)
    have w8:IntKind.i64.wrap ((p:Int)*29)=(p:Int)*29:=IntWalk.i64_in _ (by omega)
    have w9:IntKind.i64.wrap (b1*131+b2*1117+(p:Int)*29)=b1*131+b2*1117+(p:Int)*29:=IntWalk.i64_in _ (by omega)
    have w10:IntKind.i64.wrap ((q1:Int)*53)=(q1:Int)*53:=IntWalk.i64_in _ (by omega)
    have w11:IntKind.i64.wrap (b1*131+b2*1117+(p:Int)*29+(q1:Int)*53)=b1*131+b2*1117+(p:Int)*29+(q1:Int)*53:=IntWalk.i64_in _ (by omega)
    clear hi1 hi2 hq1 hb1 hb2
    go_enter Tryz.func64,Tryz.ntmps64
    go_wp2
    obtain⟨W2,HW⟩:∃ W2,W2=w.setCell ⟨g,1,none⟩ (.int .i64 ((p:Int)+1)):=⟨_,rfl⟩
    have z0:W2.cell? ⟨g,0,none⟩=some (.slice (some ad) bs.length c):=by
     rw [HW,World.cell?_setCell_other _ _ _ _ (by simp)];exact c0
    have z1:=hc
    have z2:=hc'
    rw [← HW] at z1 z2 hr1 hk1 ⊢
    clear HW hc hc' c0 c1 f1
    go_quiet (fail)
    obtain⟨X,hX⟩:∃ X:Nat,b1*131+b2*1117+(p:Int)*29+(q1:Int)*53=(X:Int):=⟨(b1*131+b2*1117+(p:Int)*29+(q1:Int)*53).toNat,by omega⟩
    have hXb:X<9223372036854775808:=by omega
    rw [hX]
    clear w1 w2 w3 w4 w5 w6 w7 w8 w9 w10 w11 hX hm1 hm2 hm3
    obtain⟨Y,hY,hYb⟩:=xor_small X hXb
    have hY2:bits .xor .i64 (X:Int) ((X:Int) / 64)=(Y:Int):=by rw [← hY];simp
    clear hY
    have hmod:(Y:Int) % n<n:=Int.emod_lt_of_pos _ (show 0<n by omega)
    have hmod0:0≤(Y:Int) % n:=Int.emod_nonneg _ (show n≠0 by omega)
    go_wp2
    go_ret
    exact⟨_,rfl,hmod0,.inl hmod,hr1.below (below_drewN' (Below.refl _ _) _),hk1.drewN _⟩
theorem step_fold {P:Program}{ops:Array Oper}{o:Oper}{a:Go.Act}{K:Go.Act→World→Prop}{Q:Exit→Go.Act→World→Prop}{w:World}{E:Prop}(h:if Region.wanted o (yielded ops a.tmps)=true then Oper.wp P o a w K Q else E):if Region.wanted o (yielded ops a.tmps)=true then Oper.wp P o a w K Q else E:=h
end Go.Proofs.YtjacjafmimgfcaaGreat
namespace Go.Proofs.YtjacjafmimgfcaaGreat
open Go.RowKit
theorem Row.take {α:Type}{d:Kd α}{w:World}{S:Nat→Prop}{A:Option Addr}{xs:List α}(h:Row d w S A xs)(n:Nat):Row d w S A (xs.take n):=by
 refine⟨by have:=h.1;rw [List.length_take];omega,fun hn=>?_⟩
 obtain⟨ad,e,hs,hl,hc⟩:=h.2 (by rintro rfl;simp at hn)
 refine⟨ad,e,hs,hl,fun j x hj=>hc j x ?_⟩
 rw [List.getElem?_take] at hj
 split at hj
 ·exact hj
 ·cases hj
def Opened (w:World) (S:Nat→Prop) (e:Ending) (w':World):Prop :=
 ∃ (g:Nat) (A:Option Addr) (c:Nat) (bs:List Int),e=.returned (.pointer (some ⟨g,0,none⟩))∧RdAt w' g S A c bs 1099511627776∧w.heap.size≤g∧Below w.heap.size w w'
theorem l6Open_calls (bs:List Int)(A:Option Addr)(c:Nat)(w:World)(S:Nat→Prop)(hr:Row Kd.byte w S A bs)(hS:∀ k,S k→k<w.heap.size)(hc:bs.length≤c) :
  Calls Tryz.prog 60 #[.slice A bs.length c] w (Opened w S):=by
 have hm:=hr.1
 have mk:∀ (ys:List Int),Row Kd.byte w S A ys→ys.length≤2000→Opened w S (.returned (.pointer (some ⟨w.heap.size,0,none⟩))) (w.alloc (.cells #[.slice A ys.length c,.int .i64 0] 151)):=by
  intro ys hy hl
  have hb:Below w.heap.size w (w.alloc (.cells #[.slice A ys.length c,.int .i64 0] 151)):=(by repeat (first | exact Below.refl _ _ | (refine Below.alloc ?_ (by simp) _) | (refine Below.setCell ?_ (by simp) _) | (refine below_drewN' ?_ _) | (refine Below.drew ?_)))
  exact⟨w.heap.size,A,c,ys,rfl,⟨⟨0,heap_alloc_new w _,by omega⟩,hy.belowAll hb,fun k hk=>hS k hk,hl⟩,Nat.le_refl _,hb⟩
 by_cases h:bs.length≤2000
 ·have mk1:=mk bs hr h
  have HM:=Lib.hid mk1
  clear mk mk1
  go_enter Tryz.func60,Tryz.ntmps60
  go_wp2
  go_ret
  exact HM.out
 ·have h2:2000<bs.length:=by omega
  have mk1:=mk (bs.take 2000) (hr.take _) (by rw [List.length_take];omega)
  rw [List.length_take,Nat.min_eq_left (by omega)] at mk1
  have HM:=Lib.hid mk1
  have hc2:2000≤c:=by omega
  clear mk mk1
  go_enter Tryz.func60,Tryz.ntmps60
  go_wp2
  go_ret
  exact HM.out
theorem froz_ {w:World}{b:Nat}{cs:Array Value}{t:TypeId}(h:w.heap[b]?=some (.cells cs t (0,0)))(i:Nat):w.frozen? ⟨b,i,none⟩=false:=by simp [World.frozen?,h]
def Drew (R:Value→World→Prop) (w:World) (g:Nat) (S:Nat→Prop) (A:Option Addr) (c:Nat) (bs:List Int) (f:Nat) (e:Ending) (w':World):Prop :=
 ∃ v,e=.returned v∧R v w'∧RdAt w' g S A c bs f∧Keep (fun k=>k=g) w w'
def isDeed (v:Value):Prop:=∃ d:Deed,v=.agg #[.int .i64 d.kind,.int .i64 d.a,.int .i64 d.b]∧i64 d.kind∧i64 d.a∧i64 d.b
theorem isDeed_mk {k a b:Int}(hk:i64 k)(ha:i64 a)(hb:i64 b):isDeed (.agg #[.int .i64 k,.int .i64 a,.int .i64 b]):=⟨⟨k,a,b⟩,rfl,hk,ha,hb⟩
theorem l71Deed_calls (cells:Int)(w:World)(g:Nat)(S:Nat→Prop)(A:Option Addr)(c:Nat)(bs:List Int)(f:Nat)(hR:RdAt w g S A c bs (f+3))(h0:0≤cells)(hc:cells≤1000) :
  Calls Tryz.prog 153 #[.pointer (some ⟨g,0,none⟩),.int .i64 cells] w (Drew (fun v _=>isDeed v) w g S A c bs f):=by
 have hgl:=hR.lt
 have hwz:w.heap.size=w.heap.size:=rfl
 by_cases hz:cells=0
 ·subst hz
  have hgne:¬ w.heap.size=g:=by omega
  have hRo:=fun o=>hR.below (w':=w.alloc o) (by repeat (first | exact Below.refl _ _ | (refine Below.alloc ?_ (by simp) _) | (refine Below.setCell ?_ (by simp) _) | (refine below_drewN' ?_ _) | (refine Below.drew ?_)))
  clear hR
  go_enter Tryz.func153,Tryz.ntmps153
  go_wp2_with (first | (go_at_call 64;refine(pick_calls _ _ _ _ _ _ _ _ hR1 (by omega)).mono ?_;rintro e w2 ⟨y,rfl,hy0,hy1,hR2,hk⟩;have hT2:=hk.blk hT1 hgne;have hK2:=Keep.trans hK1 hk;have hq0:=cell_of_row _ _ 0 _ _ _ hT2;have hq1:=cell_of_row _ _ 1 _ _ _ hT2;have hq2:=cell_of_row _ _ 2 _ _ _ hT2;have hq3:=froz_ hT2;simp at hq0 hq1 hq2;clear hk hT1 hK1 hR1) | (go_at_call 64;refine(pick_calls _ _ _ _ _ _ _ _ (hRo _) (by omega)).mono ?_;rintro e w1 ⟨x,rfl,hx0,hx1,hR1,hk⟩;have hT1:=hk.blk (heap_alloc_new w _) hgne;have hK1:=Keep.trans (Keep.alloc (Keep.refl (fun k=>k=g) w) _) hk;clear hk hRo))
  exact bodyPost_ret (v:=.agg #[.int .i64 3,.int .i64 x,.int .i64 y]) (by simp [results,Tryz.results153,go_sem,hq0,hq1,hq2,hq3]) rfl ⟨_,rfl,isDeed_mk (by unfold i64;omega) (by unfold i64;omega) (by unfold i64;omega),(((hR2.set hgl _).set hgl _).set hgl _).less (by omega),((hK2.setCell (fun h=>absurd h (Nat.lt_irrefl _)) _).setCell (fun h=>absurd h (Nat.lt_irrefl _)) _).setCell (fun h=>absurd h (Nat.lt_irrefl _)) _⟩
 ·have hgne:¬ w.heap.size=g:=by omega
  have hRo:=fun o=>hR.below (w':=w.alloc o) (by repeat (first | exact Below.refl _ _ | (refine Below.alloc ?_ (by simp) _) | (refine Below.setCell ?_ (by simp) _) | (refine below_drewN' ?_ _) | (refine Below.drew ?_)))
  clear hR
  go_enter Tryz.func153,Tryz.ntmps153
  go_wp2_with (first | (go_at_call 64;refine(pick_calls _ _ _ _ _ _ _ _ hR2 (by omega)).mono ?_;rintro e w3 ⟨z,rfl,hz0,hz1,hR3,hk⟩;have hT3:=hk.blk hT2 hgne;have hK3:=Keep.trans hK2 hk;have hq0:=cell_of_row _ _ 0 _ _ _ hT3;have hq1:=cell_of_row _ _ 1 _ _ _ hT3;have hq2:=cell_of_row _ _ 2 _ _ _ hT3;have hq3:=froz_ hT3;simp at hq0 hq1 hq2;clear hk hT2 hK2 hR2) | (go_at_call 64;refine(pick_calls _ _ _ _ _ _ _ _ hR1 (by omega)).mono ?_;rintro e w2 ⟨y,rfl,hy0,hy1,hR2,hk⟩;have hT2:=hk.blk hT1 hgne;have hK2:=Keep.trans hK1 hk;have hq0:=cell_of_row _ _ 0 _ _ _ hT2;have hq1:=cell_of_row _ _ 1 _ _ _ hT2;have hq2:=cell_of_row _ _ 2 _ _ _ hT2;have hq3:=froz_ hT2;simp at hq0 hq1 hq2;clear hk hT1 hK1 hR1) | (go_at_call 64;refine(pick_calls _ _ _ _ _ _ _ _ (hRo _) (by omega)).mono ?_;rintro e w1 ⟨x,rfl,hx0,hx1,hR1,hk⟩;have hT1:=hk.blk (heap_alloc_new w _) hgne;have hK1:=Keep.trans (Keep.alloc (Keep.refl (fun k=>k=g) w) _) hk;clear hk hRo))
  all_goals first | (refine bodyPost_ret (v:=.agg #[.int .i64 1,.int .i64 y,.int .i64 z]) ?_ rfl ⟨_,rfl,isDeed_mk (by unfold i64;omega) (by unfold i64;omega) (by unfold i64;omega),(((hR3.set hgl _).set hgl _).set hgl _).less (by omega),((hK3.setCell (fun h=>absurd h (Nat.lt_irrefl _)) _).setCell (fun h=>absurd h (Nat.lt_irrefl _)) _).setCell (fun h=>absurd h (Nat.lt_irrefl _)) _⟩;simp [results,Tryz.results153,go_sem,hq0,hq1,hq2,hq3];done) | (refine bodyPost_ret (v:=.agg #[.int .i64 2,.int .i64 y,.int .i64 z]) ?_ rfl ⟨_,rfl,isDeed_mk (by unfold i64;omega) (by unfold i64;omega) (by unfold i64;omega),(((hR3.set hgl _).set hgl _).set hgl _).less (by omega),((hK3.setCell (fun h=>absurd h (Nat.lt_irrefl _)) _).setCell (fun h=>absurd h (Nat.lt_irrefl _)) _).setCell (fun h=>absurd h (Nat.lt_irrefl _)) _⟩;simp [results,Tryz.results153,go_sem,hq0,hq1,hq2,hq3];done) | (refine bodyPost_ret (v:=.agg #[.int .i64 3,.int .i64 y,.int .i64 z]) ?_ rfl ⟨_,rfl,isDeed_mk (by unfold i64;omega) (by unfold i64;omega) (by unfold i64;omega),(((hR3.set hgl _).set hgl _).set hgl _).less (by omega),((hK3.setCell (fun h=>absurd h (Nat.lt_irrefl _)) _).setCell (fun h=>absurd h (Nat.lt_irrefl _)) _).setCell (fun h=>absurd h (Nat.lt_irrefl _)) _⟩;simp [results,Tryz.results153,go_sem,hq0,hq1,hq2,hq3];done) | (refine bodyPost_ret (v:=.agg #[.int .i64 4,.int .i64 y,.int .i64 z]) ?_ rfl ⟨_,rfl,isDeed_mk (by unfold i64;omega) (by unfold i64;omega) (by unfold i64;omega),(((hR3.set hgl _).set hgl _).set hgl _).less (by omega),((hK3.setCell (fun h=>absurd h (Nat.lt_irrefl _)) _).setCell (fun h=>absurd h (Nat.lt_irrefl _)) _).setCell (fun h=>absurd h (Nat.lt_irrefl _)) _⟩;simp [results,Tryz.results153,go_sem,hq0,hq1,hq2,hq3];done) | (refine bodyPost_ret (v:=.agg #[.int .i64 5,.int .i64 y,.int .i64 0]) ?_ rfl ⟨_,rfl,isDeed_mk (by unfold i64;omega) (by unfold i64;omega) (by unfold i64;omega),(((hR2.set hgl _).set hgl _).set hgl _).less (by omega),((hK2.setCell (fun h=>absurd h (Nat.lt_irrefl _)) _).setCell (fun h=>absurd h (Nat.lt_irrefl _)) _).setCell (fun h=>absurd h (Nat.lt_irrefl _)) _⟩;simp [results,Tryz.results153,go_sem,hq0,hq1,hq2,hq3];done)
end Go.Proofs.YtjacjafmimgfcaaGreat
