/- Programs and changes, as plain Lean: no memory, no Go.; How programs lie in memory.; The reference's look at a program's form.; The reference's look at an act.; The reference's look at an act that is a change.; The reference's look at a program's form: all of it. -/
import Derived.Test.YtjacjafmimgfcaaGreatProg
import Derived.StillTailTactics
import Derived.Test.YtjacjafmimgfcaaGreatWaa
set_option maxHeartbeats 1000000
set_option maxRecDepth 100000
set_option linter.unusedVariables false
set_option linter.unusedSimpArgs false
namespace Go.Proofs.YtjacjafmimgfcaaGreat
structure Deed where
 kind:Int
 a:Int
 b:Int
deriving DecidableEq
structure Act where
 kind:Int
 deeds:List Deed
 kids:List Int
 reg:Int
deriving DecidableEq
structure Prog where
 cells:List Int
 bodies:List (List Act)
deriving DecidableEq
def inR (n lo hi:Int):Bool:=decide (lo≤n) && decide (n≤hi)
def deedOk (d:Deed) (cells:Int):Bool :=
 if d.kind=1 then inR d.a 0 2 && inR d.b 0 (cells-1)
 else if d.kind=2 then inR d.a 0 (cells-1) && inR d.b 0 2
 else if d.kind=3 then inR d.a 0 2 && inR d.b 0 99
 else if d.kind=4 then inR d.a 0 2 && inR d.b 0 2
 else if d.kind=5 then inR d.a 0 2 && (d.b == 0)
 else false
def changeOk (deeds:List Deed) (cells:Int):Bool:=deeds.all (deedOk · cells) && decide (deeds.length≤5) && inR cells 0 3
def kidsOk (kids:List Int) (body bodies:Int):Bool:=kids.all (fun k=>inR k (body+1) (bodies-1)) && inR kids.length 1 2
def actOk (a:Act) (cells body bodies:Int):Bool :=
 if a.kind=1 then a.kids.isEmpty && decide (a.reg=0) && a.deeds.all (deedOk · cells) && decide (a.deeds.length≤5)
 else if a.kind=2 then a.deeds.isEmpty && decide (a.reg=0) && kidsOk a.kids body bodies
 else if a.kind=3 then a.deeds.isEmpty && a.kids.isEmpty && decide (a.reg=0)
 else if a.kind=4 then a.deeds.isEmpty && a.kids.isEmpty && inR a.reg 0 2
 else false
def bodyOk (acts:List Act) (cells body bodies:Int):Bool:=decide (acts.length≤4) && acts.all (actOk · cells body bodies)
def bodiesOk (cells:Int) (bodies:List (List Act)):Bool:=(List.range bodies.length).all fun i=>bodyOk (bodies.getD i []) cells i bodies.length
def numsOk (l:List Int):Bool:=l.all (inR · 0 99)
def formOk (p:Prog):Bool :=
 decide (p.cells.length≤3) && inR p.bodies.length 1 4 && numsOk p.cells && bodiesOk p.cells.length p.bodies
def sumOf (f:Int→Int) (l:List Int):Int:=(l.map f).sum
def actsSum (f:Int→Int) (acts:List Act):Int:=sumOf f (acts.flatMap (·.kids))
def tree:Nat→Prog→Nat→Int
 | 0,_,_=>0
 | n+1,p,b=>1+actsSum (fun k=>tree n p k.toNat) (p.bodies.getD b [])
def progOk (p:Prog):Bool:=formOk p && decide (tree 4 p 0≤7)
theorem all_take_snoc {α:Type}(p:α→Bool)(l:List α)(k:Nat)(h:k<l.length):(l.take (k+1)).all p=((l.take k).all p && p l[k]):=by
 rw [List.take_succ_eq_append_getElem h,List.all_append];simp
theorem all_take_all {α:Type}(p:α→Bool)(l:List α)(k:Nat)(h:l.length≤k):(l.take k).all p=l.all p:=by rw [List.take_of_length_le h]
theorem all_false_of {α:Type}(p:α→Bool)(l:List α)(k:Nat)(h:k<l.length)(hp:p l[k]=false):l.all p=false:=by
 rw [List.all_eq_false];exact⟨l[k],List.getElem_mem h,by simp [hp]⟩
theorem range_all_succ (p:Nat→Bool)(k:Nat):(List.range (k+1)).all p=((List.range k).all p && p k):=by
 rw [List.range_succ,List.all_append];simp
theorem range_all_false (p:Nat→Bool)(n k:Nat)(h:k<n)(hp:p k=false):(List.range n).all p=false:=by
 rw [List.all_eq_false];exact⟨k,List.mem_range.2 h,by simp [hp]⟩
theorem sumOf_snoc (f:Int→Int)(l:List Int)(k:Nat)(h:k<l.length):sumOf f (l.take (k+1))=sumOf f (l.take k)+f l[k]:=by
 unfold sumOf;rw [List.take_succ_eq_append_getElem h];simp only [List.map_append,List.sum_append,List.map_cons,List.map_nil,List.sum_cons,List.sum_nil,Int.add_zero]
theorem sumOf_all (f:Int→Int)(l:List Int)(k:Nat)(h:l.length≤k):sumOf f (l.take k)=sumOf f l:=by rw [List.take_of_length_le h]
theorem actsSum_snoc (f:Int→Int)(l:List Act)(k:Nat)(h:k<l.length):actsSum f (l.take (k+1))=actsSum f (l.take k)+sumOf f l[k].kids:=by
 unfold actsSum sumOf;rw [List.take_succ_eq_append_getElem h];simp only [List.flatMap_append,List.flatMap_cons,List.flatMap_nil,List.append_nil,List.map_append,List.sum_append]
theorem actsSum_all (f:Int→Int)(l:List Act)(k:Nat)(h:l.length≤k):actsSum f (l.take k)=actsSum f l:=by rw [List.take_of_length_le h]
theorem sumOf_bound (f:Int→Int)(M:Int)(l:List Int)(h:∀ k ∈ l,0≤f k∧f k≤M):0≤sumOf f l∧sumOf f l≤l.length*M:=by
 induction l with
 | nil=>simp [sumOf]
 | cons a r ih =>
  have h1:=h a (List.mem_cons_self ..)
  have h2:=ih fun k hk=>h k (List.mem_cons_of_mem _ hk)
  simp only [sumOf,List.map_cons,List.sum_cons,List.length_cons] at *
  have e:((r.length+1:Nat):Int)*M=r.length*M+M:=by rw [Int.natCast_add,Int.add_mul];simp
  rw [e];omega
theorem actsSum_bound (f:Int→Int)(M:Int)(hM:0≤M)(l:List Act)(hl:∀ a ∈ l,a.kids.length≤2)(h:∀ a ∈ l,∀ k ∈ a.kids,0≤f k∧f k≤M):0≤actsSum f l∧actsSum f l≤l.length*(2*M):=by
 induction l with
 | nil=>simp [actsSum,sumOf]
 | cons a r ih =>
  have h1:=sumOf_bound f M a.kids (h a (List.mem_cons_self ..))
  have h2:=ih (fun b hb=>hl b (List.mem_cons_of_mem _ hb)) fun b hb=>h b (List.mem_cons_of_mem _ hb)
  have h3:=hl a (List.mem_cons_self ..)
  have e0:actsSum f (a :: r)=sumOf f a.kids+actsSum f r:=by simp [actsSum,sumOf]
  have e:((r.length+1:Nat):Int)*(2*M)=r.length*(2*M)+2*M:=by rw [Int.natCast_add,Int.add_mul];simp
  have e2:(a.kids.length:Int)*M≤2*M:=Int.mul_le_mul_of_nonneg_right (by omega) hM
  rw [e0,List.length_cons,e];omega
theorem formOk_len {p:Prog}(h:formOk p=true):p.cells.length≤3∧1≤p.bodies.length∧p.bodies.length≤4:=by
 simp [formOk,inR] at h;omega
theorem formOk_body {p:Prog}(h:formOk p=true){b:Nat}(hb:b<p.bodies.length):bodyOk p.bodies[b] p.cells.length b p.bodies.length=true:=by
 simp only [formOk,Bool.and_eq_true,bodiesOk,List.all_eq_true,List.mem_range] at h
 have:=h.2 b hb
 rwa [List.getD_eq_getElem?_getD,List.getElem?_eq_getElem hb,Option.getD_some] at this
theorem actOk_kids {a:Act}{c b n:Int}(h:actOk a c b n=true):a.kids.length≤2∧∀ k ∈ a.kids,b+1≤k∧k≤n-1:=by
 unfold actOk at h
 split at h
 ·simp at h;simp [h.1.1.1]
 ·split at h
  ·simp [kidsOk,inR] at h
   exact⟨by omega,fun k hk=>h.2.1 k hk⟩
  ·split at h
   ·simp at h;simp [h.1.2]
   ·split at h
    ·simp at h;simp [h.1.2]
    ·simp at h
theorem formOk_acts {p:Prog}(h:formOk p=true){b:Nat}(hb:b<p.bodies.length):p.bodies[b].length≤4∧∀ a ∈ p.bodies[b],a.kids.length≤2∧∀ k ∈ a.kids,(b:Int)+1≤k∧k≤(p.bodies.length:Int)-1:=by
 have:=formOk_body h hb
 simp only [bodyOk,Bool.and_eq_true,decide_eq_true_eq,List.all_eq_true] at this
 exact⟨this.1,fun a ha=>actOk_kids (this.2 a ha)⟩
theorem tree_bound {p:Prog}(h:formOk p=true):∀ (d b:Nat),0≤tree d p b∧tree d p b≤9 ^ d:=by
 intro d
 induction d with
 | zero=>intro b;simp [tree]
 | succ d ih =>
  intro b
  have hp:(0:Int)≤9 ^ d:=Int.pow_nonneg (by decide)
  have hp1:(1:Int)≤9 ^ d:=by
   have:∀ d:Nat,(1:Int)≤9 ^ d:=by
    intro d;induction d with
    | zero=>simp
    | succ d ih=>rw [Int.pow_succ];omega
   exact this d
  rcases Nat.lt_or_ge b p.bodies.length with hb | hb
  ·have ha:=formOk_acts h hb
   have:=actsSum_bound (fun k=>tree d p k.toNat) (9 ^ d) hp p.bodies[b] (fun a m=>(ha.2 a m).1) (fun a _ k _=>ih k.toNat)
   simp only [tree,List.getD_eq_getElem?_getD,List.getElem?_eq_getElem hb,Option.getD_some]
   have h4:(p.bodies[b].length:Int)*(2*9 ^ d)≤4*(2*9 ^ d):=Int.mul_le_mul_of_nonneg_right (by omega) (by omega)
   rw [Int.pow_succ];omega
  ·simp only [tree,List.getD_eq_getElem?_getD,List.getElem?_eq_none hb,Option.getD_none]
   rw [Int.pow_succ];simp [actsSum,sumOf];omega
theorem getD_at {α:Type}(l:List α)(k:Nat)(d:α)(h:k<l.length):l.getD k d=l[k]:=by simp [List.getD_eq_getElem?_getD,h]
end Go.Proofs.YtjacjafmimgfcaaGreat
namespace Go.Proofs.YtjacjafmimgfcaaGreat
open Go.RowKit
def kDeed:Kd Deed:=Kd.iso (Kd.pair Kd.int (Kd.pair Kd.int Kd.int)) (fun x:Deed=>(x.kind,x.a,x.b))
def kAct:Kd Act:=Kd.iso (Kd.pair Kd.int (Kd.pair (Kd.slice kDeed) (Kd.pair (Kd.slice Kd.int) Kd.int))) (fun x:Act=>(x.kind,x.deeds,x.kids,x.reg))
def kProg:Kd Prog:=Kd.iso (Kd.pair (Kd.slice Kd.int) (Kd.slice (Kd.slice kAct))) (fun x:Prog=>(x.cells,x.bodies))
def i64 (n:Int):Prop:=-9223372036854775808≤n∧n≤9223372036854775807
theorem kInt_sz:Kd.int.sz=1:=rfl
theorem kSlice_sz {α:Type}(d:Kd α):(Kd.slice d).sz=1:=rfl
theorem kDeed_open {w:World}{S:Nat→Prop}{x:Deed}{cs:List Value}(h:kDeed.K w S x cs):cs=[.int .i64 x.kind,.int .i64 x.a,.int .i64 x.b]∧i64 x.kind∧i64 x.a∧i64 x.b:=by
 obtain⟨_,_,rfl,⟨rfl,h1⟩,_,_,rfl,⟨rfl,h2⟩,⟨rfl,h3⟩⟩:=h
 exact⟨rfl,h1,h2,h3⟩
theorem kDeed_mk (w:World)(S:Nat→Prop)(x:Deed)(h1:i64 x.kind)(h2:i64 x.a)(h3:i64 x.b):kDeed.K w S x [.int .i64 x.kind,.int .i64 x.a,.int .i64 x.b] :=
 ⟨[.int .i64 x.kind],_,rfl,⟨rfl,h1⟩,[.int .i64 x.a],_,rfl,⟨rfl,h2⟩,⟨rfl,h3⟩⟩
theorem kAct_open {w:World}{S:Nat→Prop}{x:Act}{cs:List Value}(h:kAct.K w S x cs) :
  ∃ A c B e,cs=[.int .i64 x.kind,.slice A x.deeds.length c,.slice B x.kids.length e,.int .i64 x.reg]∧x.deeds.length≤c∧x.kids.length≤e∧Row kDeed w S A x.deeds∧Row Kd.int w S B x.kids∧i64 x.kind∧i64 x.reg:=by
 obtain⟨_,_,rfl,⟨rfl,h1⟩,_,_,rfl,⟨A,c,rfl,hc,hA⟩,_,_,rfl,⟨B,e,rfl,he,hB⟩,⟨rfl,h2⟩⟩:=h
 exact⟨A,c,B,e,rfl,hc,he,hA,hB,h1,h2⟩
theorem kAct_mk {w:World}{S:Nat→Prop}(x:Act){A B:Option Addr}{c e:Nat}(hc:x.deeds.length≤c)(he:x.kids.length≤e)(hA:Row kDeed w S A x.deeds)(hB:Row Kd.int w S B x.kids)(h1:i64 x.kind)(h2:i64 x.reg) :
  kAct.K w S x [.int .i64 x.kind,.slice A x.deeds.length c,.slice B x.kids.length e,.int .i64 x.reg] :=
 ⟨[.int .i64 x.kind],_,rfl,⟨rfl,h1⟩,[.slice A x.deeds.length c],_,rfl,⟨A,c,rfl,hc,hA⟩,[.slice B x.kids.length e],_,rfl,⟨B,e,rfl,he,hB⟩,⟨rfl,h2⟩⟩
section
variable {w:World}{S:Nat→Prop}{A:Option Addr}{j:Nat}
theorem at_int {xs:List Int}(h:Row Kd.int w S A xs)(hj:j<xs.length):∃ ad,A=some ad∧ad.block<w.heap.size∧w.cell? (ad.add j)=some (.int .i64 xs[j])∧i64 xs[j]:=by
 obtain⟨ad,c,rfl,_,hl,⟨rfl,hk⟩,hc⟩:=h.get hj
 refine⟨ad,rfl,hl,?_,hk⟩
 have:=hc 0 _ rfl
 simpa [kInt_sz] using this
theorem at_slice {α:Type}{d:Kd α}{xs:List (List α)}(h:Row (Kd.slice d) w S A xs)(hj:j<xs.length) :
  ∃ ad B c,A=some ad∧ad.block<w.heap.size∧w.cell? (ad.add j)=some (.slice B xs[j].length c)∧xs[j].length≤c∧Row d w S B xs[j]:=by
 obtain⟨ad,c,rfl,_,hl,⟨B,c',rfl,hle,hr⟩,hc⟩:=h.get hj
 refine⟨ad,B,c',rfl,hl,?_,hle,hr⟩
 have:=hc 0 _ rfl
 simpa [kSlice_sz] using this
theorem at_deed {xs:List Deed}(h:Row kDeed w S A xs)(hj:j<xs.length) :
  ∃ ad,A=some ad∧ad.block<w.heap.size∧w.cell? (ad.add (j*3))=some (.int .i64 xs[j].kind)∧w.cell? ⟨(ad.add (j*3)).block,(ad.add (j*3)).off+1,none⟩=some (.int .i64 xs[j].a) ∧
   w.cell? ⟨(ad.add (j*3)).block,(ad.add (j*3)).off+2,none⟩=some (.int .i64 xs[j].b)∧i64 xs[j].kind∧i64 xs[j].a∧i64 xs[j].b:=by
 obtain⟨ad,c,rfl,_,hl,hk,hc⟩:=h.get hj
 obtain⟨rfl,h1,h2,h3⟩:=kDeed_open hk
 exact⟨ad,rfl,hl,hc 0 _ rfl,by rw [← add_pos' _ _ 1 (by omega)];exact hc 1 _ rfl,by rw [← add_pos' _ _ 2 (by omega)];exact hc 2 _ rfl,h1,h2,h3⟩
theorem at_act {xs:List Act}(h:Row kAct w S A xs)(hj:j<xs.length) :
  ∃ ad B c D e,A=some ad∧ad.block<w.heap.size∧w.cell? (ad.add (j*4))=some (.int .i64 xs[j].kind)∧w.cell? ⟨(ad.add (j*4)).block,(ad.add (j*4)).off+1,none⟩=some (.slice B xs[j].deeds.length c) ∧
   w.cell? ⟨(ad.add (j*4)).block,(ad.add (j*4)).off+2,none⟩=some (.slice D xs[j].kids.length e)∧w.cell? ⟨(ad.add (j*4)).block,(ad.add (j*4)).off+3,none⟩=some (.int .i64 xs[j].reg) ∧
   xs[j].deeds.length≤c∧xs[j].kids.length≤e∧Row kDeed w S B xs[j].deeds∧Row Kd.int w S D xs[j].kids∧i64 xs[j].kind∧i64 xs[j].reg:=by
 obtain⟨ad,c,rfl,_,hl,hk,hc⟩:=h.get hj
 obtain⟨B,c',D,e,rfl,h1,h2,h3,h4,h5,h6⟩:=kAct_open hk
 exact⟨ad,B,c',D,e,rfl,hl,hc 0 _ rfl,by rw [← add_pos' _ _ 1 (by omega)];exact hc 1 _ rfl,by rw [← add_pos' _ _ 2 (by omega)];exact hc 2 _ rfl,by rw [← add_pos' _ _ 3 (by omega)];exact hc 3 _ rfl,h1,h2,h3,h4,h5,h6⟩
end
end Go.Proofs.YtjacjafmimgfcaaGreat
namespace Go.Proofs.YtjacjafmimgfcaaGreat
open Go.RowKit
theorem l6In_calls (n lo hi:Int)(w:World) :
  Calls Tryz.prog 67 #[.int .i64 n,.int .i64 lo,.int .i64 hi] w fun e w'=>e=.returned (.bool (inR n lo hi))∧w=w':=by
 by_cases h:lo≤n
 all_goals
  go_enter Tryz.func67,Tryz.ntmps67
  go_wp2
  go_ret
  exact⟨by simp [inR,h]<;>omega,rfl⟩
theorem l1Deed_calls (k a b c:Int)(w:World)(h0:0≤c)(h1:c≤9223372036854775807) :
  Calls Tryz.prog 115 #[.agg #[.int .i64 k,.int .i64 a,.int .i64 b],.int .i64 c] w fun e w'=>e=.returned (.bool (deedOk ⟨k,a,b⟩ c))∧Below w.heap.size w w':=by
 go_enter Tryz.func115,Tryz.ntmps115
 go_wp2_with (go_at_call 67;refine(l6In_calls _ _ _ _).mono ?_;rintro e w' ⟨rfl,rfl⟩)
 all_goals
  go_ret
  refine⟨?_,?_⟩
  ·simp_all [deedOk]
  ·exact(Below.refl _ _).alloc (Nat.le_refl _) _
theorem l1Kids_calls (kids:List Int)(A:Option Addr)(cap:Nat)(body bodies:Int)(w:World)(S:Nat→Prop)(hr:Row Kd.int w S A kids)(h0:0≤body)(h1:body≤100)(h2:0≤bodies)(h3:bodies≤9223372036854775807) :
  Calls Tryz.prog 159 #[.slice A kids.length cap,.int .i64 body,.int .i64 bodies] w fun e w'=>e=.returned (.bool (kidsOk kids body bodies))∧w=w':=by
 have hm:=hr.1
 go_enter Tryz.func159,Tryz.ntmps159
 go_wp2
 go_loop [7] (fun i=>∃ k:Nat,k≤kids.length∧i=.int .i64 k∧Hid ((kids.take k).all (fun k=>inR k (body+1) (bodies-1))=true)) (fun i=>kids.length-(intOf i).toNat)
 case atStart=>exact⟨0,Nat.zero_le _,rfl,by simp [Hid]⟩
 case round =>
  obtain⟨k,hk,rfl,HA⟩:=hrel
  by_cases hlt:k<kids.length
  ·obtain⟨ad,rfl,hl,hc,hi⟩:=at_int hr hlt
   cases hin:inR kids[k] (body+1) (bodies-1)
   all_goals
    have HI:=Lib.hid hin
    clear hin
    go_wp2_with (go_at_call 67;refine(l6In_calls _ _ _ _).mono ?_;rintro e w' ⟨rfl,rfl⟩;simp only [HI.out])
   ·go_ret
    refine⟨?_,rfl⟩
    rw [kidsOk,all_false_of _ _ k hlt HI.out];rfl
   ·go_round
    case rel=>exact⟨k+1,by omega,by go_num,by unfold Hid;rw [all_take_snoc _ _ _ hlt,HA.out,HI.out];rfl⟩
    case measure=>simp [intOf];omega
  ·go_wp2_with (go_at_call 67;refine(l6In_calls _ _ _ _).mono ?_;rintro e w' ⟨rfl,rfl⟩)
   go_ret
   refine⟨?_,rfl⟩
   have:=HA.out
   rw [all_take_all _ _ _ (by omega)] at this
   simp [kidsOk,this]
end Go.Proofs.YtjacjafmimgfcaaGreat
namespace Go.Proofs.YtjacjafmimgfcaaGreat
open Go.RowKit
section
variable (A B D E:Option Addr)(ca cb cd ce:Nat)(w:World)(S:Nat→Prop)
def l1ActArgs (p:Prog) (a:Act) (body:Int):Array Value:=#[.agg #[.slice A p.cells.length ca,.slice B p.bodies.length cb],.int .i64 body,.agg #[.int .i64 a.kind,.slice D a.deeds.length cd,.slice E a.kids.length ce,.int .i64 a.reg]]
theorem l1Act_other (p:Prog)(k:Int)(deeds:List Deed)(kids:List Int)(reg body:Int)(h1:k≠1)(h2:k≠2)(h3:k≠3)(h4:k≠4)(hm3:deeds.length≤9223372036854775807)(hm4:kids.length≤9223372036854775807) :
  Calls Tryz.prog 145 #[.agg #[.slice A p.cells.length ca,.slice B p.bodies.length cb],.int .i64 body,.agg #[.int .i64 k,.slice D deeds.length cd,.slice E kids.length ce,.int .i64 reg]] w
   fun e w'=>e=.returned (.bool false)∧Below w.heap.size w w':=by
 by_cases hr:reg=0<;>rcases deeds with _ | ⟨d0,dr⟩<;>rcases kids with _ | ⟨k0,kr⟩
 all_goals
  simp only [List.length_cons,List.length_nil] at *
  go_enter Tryz.func145,Tryz.ntmps145
  go_wp2_with fail
  all_goals
   go_ret
   exact⟨rfl,((Below.refl _ _).alloc (Nat.le_refl _) _).alloc (by simp) _⟩
theorem l1Act_3 (p:Prog)(deeds:List Deed)(kids:List Int)(reg body:Int)(hm3:deeds.length≤9223372036854775807)(hm4:kids.length≤9223372036854775807) :
  Calls Tryz.prog 145 #[.agg #[.slice A p.cells.length ca,.slice B p.bodies.length cb],.int .i64 body,.agg #[.int .i64 3,.slice D deeds.length cd,.slice E kids.length ce,.int .i64 reg]] w
   fun e w'=>e=.returned (.bool (actOk ⟨3,deeds,kids,reg⟩ p.cells.length body p.bodies.length))∧Below w.heap.size w w':=by
 by_cases hr:reg=0<;>rcases deeds with _ | ⟨d0,dr⟩<;>rcases kids with _ | ⟨k0,kr⟩
 all_goals
  simp only [List.length_cons,List.length_nil] at *
  go_enter Tryz.func145,Tryz.ntmps145
  go_wp2_with fail
  all_goals
   go_ret
   exact⟨by simp [actOk,hr],((Below.refl _ _).alloc (Nat.le_refl _) _).alloc (by simp) _⟩
theorem l1Act_4 (p:Prog)(deeds:List Deed)(kids:List Int)(reg body:Int)(hm3:deeds.length≤9223372036854775807)(hm4:kids.length≤9223372036854775807) :
  Calls Tryz.prog 145 #[.agg #[.slice A p.cells.length ca,.slice B p.bodies.length cb],.int .i64 body,.agg #[.int .i64 4,.slice D deeds.length cd,.slice E kids.length ce,.int .i64 reg]] w
   fun e w'=>e=.returned (.bool (actOk ⟨4,deeds,kids,reg⟩ p.cells.length body p.bodies.length))∧Below w.heap.size w w':=by
 rcases deeds with _ | ⟨d0,dr⟩<;>rcases kids with _ | ⟨k0,kr⟩
 all_goals
  simp only [List.length_cons,List.length_nil] at *
  go_enter Tryz.func145,Tryz.ntmps145
  go_wp2_with (go_at_call 67;refine(l6In_calls _ _ _ _).mono ?_;rintro e w' ⟨rfl,rfl⟩)
  all_goals
   go_ret
   exact⟨by simp [actOk],((Below.refl _ _).alloc (Nat.le_refl _) _).alloc (by simp) _⟩
theorem l1Act_2 (p:Prog)(deeds:List Deed)(kids:List Int)(reg body:Int)(hm3:deeds.length≤9223372036854775807)(hm2:p.bodies.length≤9223372036854775807)(hk:Row Kd.int w S E kids)(h0:0≤body)(h1:body≤100) :
  Calls Tryz.prog 145 #[.agg #[.slice A p.cells.length ca,.slice B p.bodies.length cb],.int .i64 body,.agg #[.int .i64 2,.slice D deeds.length cd,.slice E kids.length ce,.int .i64 reg]] w
   fun e w'=>e=.returned (.bool (actOk ⟨2,deeds,kids,reg⟩ p.cells.length body p.bodies.length))∧Below w.heap.size w w':=by
 have hm4:=hk.1
 by_cases hr:reg=0<;>rcases deeds with _ | ⟨d0,dr⟩
 all_goals
  simp only [List.length_cons,List.length_nil] at *
  have hkk:=fun o o'=>(hk.belowAll (((Below.refl w.heap.size w).alloc (Nat.le_refl _) o).alloc (by simp) o'))
  go_enter Tryz.func145,Tryz.ntmps145
  go_wp2_with (go_at_call 159;refine(l1Kids_calls kids _ _ _ _ _ _ (hkk _ _) (by omega) (by omega) (by omega) (by omega)).mono ?_;rintro e w' ⟨rfl,rfl⟩)
  all_goals
   go_ret
   exact⟨by simp [actOk,hr],((Below.refl _ _).alloc (Nat.le_refl _) _).alloc (by simp) _⟩
end
end Go.Proofs.YtjacjafmimgfcaaGreat
namespace Go.Proofs.YtjacjafmimgfcaaGreat
open Go.RowKit
section
variable (A B D E:Option Addr)(ca cb cd ce:Nat)(w:World)(S:Nat→Prop)
theorem l1Act_1 (p:Prog)(deeds:List Deed)(kids:List Int)(reg body:Int)(hm4:kids.length≤9223372036854775807)(hm1:p.cells.length≤9223372036854775807)(hd:Row kDeed w S D deeds) :
  Calls Tryz.prog 145 #[.agg #[.slice A p.cells.length ca,.slice B p.bodies.length cb],.int .i64 body,.agg #[.int .i64 1,.slice D deeds.length cd,.slice E kids.length ce,.int .i64 reg]] w
   fun e w'=>e=.returned (.bool (actOk ⟨1,deeds,kids,reg⟩ p.cells.length body p.bodies.length))∧Below w.heap.size w w':=by
 have hm3:=hd.1
 by_cases hr:reg=0<;>rcases kids with _ | ⟨k0,kr⟩
 case pos.nil =>
  subst hr
  simp only [List.length_cons,List.length_nil] at *
  go_enter Tryz.func145,Tryz.ntmps145
  go_wp2_with fail
  obtain⟨W2,HW⟩:∃ W2,W2=(w.alloc (Obj.cells #[.slice A p.cells.length ca,.slice B p.bodies.length cb] 39)).alloc (Obj.cells #[.int .i64 1,.slice D deeds.length cd,.slice E 0 ce,.int .i64 0] 120):=⟨_,rfl⟩
  have hb2:Below w.heap.size w W2:=by rw [HW];exact((Below.refl _ _).alloc (Nat.le_refl _) _).alloc (by simp) _
  have hz2:W2.heap.size=w.heap.size+2:=by rw [HW];simp
  have c0:W2.cell? ⟨w.heap.size,0,none⟩=some (.slice A p.cells.length ca):=by rw [HW];simp [go_sem]
  have c1:W2.cell? ⟨w.heap.size+1,1,none⟩=some (.slice D deeds.length cd):=by rw [HW];simp [go_sem]
  have hd2:=hd.belowAll hb2
  rw [← HW]
  have HZ:=Lib.hid hz2
  clear HW hz2 hd
  go_loopw [7] (fun i wr=>∃ k:Nat,k≤deeds.length∧i=.int .i64 k∧Hid ((deeds.take k).all (deedOk · p.cells.length)=true)∧Below W2.heap.size W2 wr) (fun i _=>deeds.length-(intOf i).toNat)
  case atStart=>exact⟨0,Nat.zero_le _,rfl,by simp [Hid],Below.refl _ _⟩
  case round =>
   obtain⟨k,hk,rfl,HA,hbr⟩:=hrel
   have c0r:=(hbr.cell (p:=⟨w.heap.size,0,none⟩) (by rw [HZ.out];simp)).trans c0
   have c1r:=(hbr.cell (p:=⟨w.heap.size+1,1,none⟩) (by rw [HZ.out];simp)).trans c1
   by_cases hlt:k<deeds.length
   ·obtain⟨ad,rfl,hl,hc1,hc2,hc3,hi1,hi2,hi3⟩:=at_deed (hd2.belowAll hbr) hlt
    go_wp2
    go_still_tail 8,(by kernel_rfl)
    cases hd:deedOk deeds[k] p.cells.length
    all_goals
     have HD:=Lib.hid hd
     clear hd
     go_wp2_with (go_at_call 115;refine(l1Deed_calls _ _ _ _ _ (by omega) (by omega)).mono ?_;rintro e w1 ⟨rfl,hb1⟩;rw [HD.out])
    ·go_ret
     refine⟨?_,?_⟩
     ·simp [actOk,all_false_of (deedOk · (p.cells.length:Int)) _ k hlt HD.out]
     ·exact hb2.trans ((hbr.mono (by rw [HZ.out];omega)).trans ((below_drewN' (Below.refl _ _) _).trans (hb1.mono (by have:=hbr.size;rw [HZ.out] at this;simp;omega))))
    ·go_roundw
     case rel=>exact⟨k+1,by omega,by go_num,by unfold Hid;rw [all_take_snoc _ _ _ hlt,HA.out,HD.out];rfl,hbr.trans ((below_drewN' (Below.refl _ _) _).trans (hb1.mono (by have:=hbr.size;simp;omega)))⟩
     case measure=>simp [intOf];omega
   ·go_wp2
    go_ret
    refine⟨?_,hb2.trans (hbr.mono (by rw [HZ.out];omega))⟩
    have:=HA.out
    rw [all_take_all _ _ _ (by omega)] at this
    simp [actOk,this];omega
 all_goals
  simp only [List.length_cons,List.length_nil] at *
  go_enter Tryz.func145,Tryz.ntmps145
  go_wp2_with fail
  all_goals
   go_ret
   exact⟨by simp [actOk,hr],((Below.refl _ _).alloc (Nat.le_refl _) _).alloc (by simp) _⟩
end
end Go.Proofs.YtjacjafmimgfcaaGreat
namespace Go.Proofs.YtjacjafmimgfcaaGreat
open Go.RowKit
theorem l1Act_calls (p:Prog)(a:Act)(body:Int)(A B D E:Option Addr)(ca cb cd ce:Nat)(w:World)(S:Nat→Prop)
  (hm1:p.cells.length≤9223372036854775807) (hm2:p.bodies.length≤9223372036854775807) (hd:Row kDeed w S D a.deeds) (hk:Row Kd.int w S E a.kids) (h0:0≤body) (h1:body≤100) :
  Calls Tryz.prog 145 #[.agg #[.slice A p.cells.length ca,.slice B p.bodies.length cb],.int .i64 body,.agg #[.int .i64 a.kind,.slice D a.deeds.length cd,.slice E a.kids.length ce,.int .i64 a.reg]] w
   fun e w'=>e=.returned (.bool (actOk a p.cells.length body p.bodies.length))∧Below w.heap.size w w':=by
 obtain⟨k,deeds,kids,reg⟩:=a
 by_cases h1:k=1
 ·subst h1;exact l1Act_1 A B D E ca cb cd ce w S p deeds kids reg body hk.1 hm1 hd
 ·by_cases h2:k=2
  ·subst h2;exact l1Act_2 A B D E ca cb cd ce w S p deeds kids reg body hd.1 hm2 hk h0 (by omega)
  ·by_cases h3:k=3
   ·subst h3;exact l1Act_3 A B D E ca cb cd ce w p deeds kids reg body hd.1 hk.1
   ·by_cases h4:k=4
    ·subst h4;exact l1Act_4 A B D E ca cb cd ce w p deeds kids reg body hd.1 hk.1
    ·have:=l1Act_other A B D E ca cb cd ce w p k deeds kids reg body h1 h2 h3 h4 hd.1 hk.1
     simpa [actOk,h1,h2,h3,h4] using this
theorem l1Form_calls (p:Prog)(A B:Option Addr)(ca cb:Nat)(w:World)(S:Nat→Prop)(hA:Row Kd.int w S A p.cells)(hB:Row (Kd.slice kAct) w S B p.bodies) :
  Calls Tryz.prog 107 #[.agg #[.slice A p.cells.length ca,.slice B p.bodies.length cb]] w fun e w'=>e=.returned (.bool (formOk p))∧Below w.heap.size w w':=by
 have hm1:=hA.1
 have hm2:=hB.1
 by_cases hc3:p.cells.length≤3
 rotate_left
 ·go_enter Tryz.func107,Tryz.ntmps107
  have hc3':3<p.cells.length:=by omega
  go_wp2_with (go_at_call 67;refine(l6In_calls _ _ _ _).mono ?_;rintro e w' ⟨rfl,rfl⟩)
  go_ret
  exact⟨by simp [formOk,hc3],(Below.refl _ _).alloc (Nat.le_refl _) _⟩
 cases hb4:inR p.bodies.length 1 4
 ·have HB4:=Lib.hid hb4
  clear hb4
  go_enter Tryz.func107,Tryz.ntmps107
  go_wp2_with (go_at_call 67;refine(l6In_calls _ _ _ _).mono ?_;rintro e w' ⟨rfl,rfl⟩;rw [HB4.out])
  go_ret
  exact⟨by simp [formOk,HB4.out],(Below.refl _ _).alloc (Nat.le_refl _) _⟩
 have HB4:=Lib.hid hb4
 have hb5:p.bodies.length≤4:=by simp [inR] at hb4;omega
 clear hb4
 have hbw:∀ o,Below w.heap.size w (w.alloc o):=fun o=>(Below.refl _ _).alloc (Nat.le_refl _) _
 go_enter Tryz.func107,Tryz.ntmps107
 go_wp2_with (go_at_call 67;refine(l6In_calls _ _ _ _).mono ?_;rintro e w' ⟨rfl,rfl⟩;rw [HB4.out])
 obtain⟨W2,HW⟩:∃ W2,W2=w.alloc (Obj.cells #[.slice A p.cells.length ca,.slice B p.bodies.length cb] 39):=⟨_,rfl⟩
 have hb2:Below w.heap.size w W2:=by rw [HW];exact hbw _
 have hz2:W2.heap.size=w.heap.size+1:=by rw [HW];simp
 have c0:W2.cell? ⟨w.heap.size,0,none⟩=some (.slice A p.cells.length ca):=by rw [HW];simp [go_sem]
 have c1:W2.cell? ⟨w.heap.size,1,none⟩=some (.slice B p.bodies.length cb):=by rw [HW];simp [go_sem]
 have hA2:=hA.belowAll hb2
 have hB2:=hB.belowAll hb2
 rw [← HW]
 have HZ:=Lib.hid hz2
 clear HW hz2 hA hB
 go_loop [3] (fun i=>∃ k:Nat,k≤p.cells.length∧i=.int .i64 k∧Hid ((p.cells.take k).all (fun x=>inR x 0 99)=true)) (fun i=>p.cells.length-(intOf i).toNat)
 case atStart=>exact⟨0,Nat.zero_le _,rfl,by simp [Hid]⟩
 case round =>
  obtain⟨k,hk,rfl,HA⟩:=hrel
  by_cases hlt:k<p.cells.length
  ·obtain⟨ad,rfl,hl,hc,hi⟩:=at_int hA2 hlt
   cases hin:inR p.cells[k] 0 99
   all_goals
    have HI:=Lib.hid hin
    clear hin
    go_wp2_with (go_at_call 67;refine(l6In_calls _ _ _ _).mono ?_;rintro e w' ⟨rfl,rfl⟩;simp only [HI.out])
   ·go_ret
    refine⟨?_,hb2⟩
    simp [formOk,numsOk,all_false_of (fun x=>inR x 0 99) _ k hlt HI.out]
   ·go_round
    case rel=>exact⟨k+1,by omega,by go_num,by unfold Hid;rw [all_take_snoc _ _ _ hlt,HA.out,HI.out];rfl⟩
    case measure=>simp [intOf];omega
  ·have hnum:Hid (numsOk p.cells=true):=by unfold Hid numsOk;rw [← all_take_all _ _ k (by omega)];exact HA.out
   go_wp2
   clear HA hlt hk
   go_loopw [4,5] (fun i _ wr=>∃ k:Nat,k≤p.bodies.length∧i=.int .i64 k∧Hid ((List.range k).all (fun i=>bodyOk (p.bodies.getD i []) p.cells.length i p.bodies.length)=true)∧Below W2.heap.size W2 wr) (fun i _ _=>p.bodies.length-(intOf i).toNat)
   case atStart=>exact⟨0,Nat.zero_le _,rfl,by simp [Hid],Below.refl _ _⟩
   case round =>
    obtain⟨i,hi,rfl,HB,hbr⟩:=hrel
    have c0r:=(hbr.cell (p:=⟨w.heap.size,0,none⟩) (by rw [HZ.out];simp)).trans c0
    have c1r:=(hbr.cell (p:=⟨w.heap.size,1,none⟩) (by rw [HZ.out];simp)).trans c1
    by_cases hlt:i<p.bodies.length
    ·obtain⟨ad,C,cc,rfl,hl,hc,hcl,hC⟩:=at_slice (hB2.belowAll hbr) hlt
     by_cases hb4:p.bodies[i].length≤4
     rotate_left
     ·have hb4':4<p.bodies[i].length:=by omega
      go_wp2
      go_ret
      refine⟨?_,hb2.trans (hbr.mono (by rw [HZ.out];omega))⟩
      have hf:bodiesOk p.cells.length p.bodies=false:=range_all_false _ _ i hlt (by rw [getD_at _ _ _ hlt,bodyOk,decide_eq_false hb4];rfl)
      simp [formOk,hf]
     ·go_wp2
      obtain⟨wo,rfl⟩:∃ wo:World,wo=wr:=⟨_,rfl⟩
      go_loopw [5] (fun v wr=>∃ j:Nat,j≤p.bodies[i].length∧v=.int .i64 j∧Hid ((p.bodies[i].take j).all (fun a=>actOk a p.cells.length i p.bodies.length)=true)∧Below wo.heap.size wo wr) (fun v _=>p.bodies[i].length-(intOf v).toNat)
      case atStart=>exact⟨0,Nat.zero_le _,rfl,by simp [Hid],Below.refl _ _⟩
      case round =>
       obtain⟨j,hj,rfl,HJ,hbj⟩:=hrel
       have hsz:=hbr.size
       rw [HZ.out] at hsz
       have hbj2:Below W2.heap.size W2 wr:=below_then hbr hbr.size hbj
       have c0j:=(hbj2.cell (p:=⟨w.heap.size,0,none⟩) (by rw [HZ.out];simp)).trans c0
       have c1j:=(hbj2.cell (p:=⟨w.heap.size,1,none⟩) (by rw [HZ.out];simp)).trans c1
       have hcj:=(hbj.cell (p:=ad.add i) (by rw [block_add];exact hl)).trans hc
       by_cases hlj:j<p.bodies[i].length
       ·obtain⟨ad2,D,cd,E,ce,rfl,hl2,k0,k1,k2,k3,hcd,hce,hD,hE,hi1,hi2⟩:=at_act (hC.belowAll hbj) hlj
        go_wp2
        go_still_tail 10,(by kernel_rfl)
        cases ha:actOk p.bodies[i][j] p.cells.length i p.bodies.length
        all_goals
         have HA:=Lib.hid ha
         clear ha
         go_wp2_with (go_at_call 145;go_loud (refine(l1Act_calls p p.bodies[i][j] i _ _ _ _ _ _ _ _ _ S hm1 hm2 (Row.drewN hD _) (Row.drewN hE _) (by omega) (by omega)).mono ?_;rintro e w1 ⟨rfl,hb1⟩;rw [HA.out]))
        ·go_ret
         refine⟨?_,hb2.trans ((hbj2.mono (by rw [HZ.out];omega)).trans ((below_drewN' (Below.refl _ _) _).trans (hb1.mono (by have:=hbj2.size;rw [HZ.out] at this;simp;omega))))⟩
         have hf:bodiesOk p.cells.length p.bodies=false:=range_all_false _ _ i hlt (by rw [getD_at _ _ _ hlt,bodyOk,all_false_of (fun a=>actOk a (p.cells.length:Int) i p.bodies.length) _ j hlj HA.out];simp)
         simp [formOk,hf]
        ·go_roundw
         case rel=>exact⟨j+1,by omega,by go_num,by unfold Hid;rw [all_take_snoc _ _ _ hlj,HJ.out,HA.out];rfl,hbj.trans ((below_drewN' (Below.refl _ _) _).trans (hb1.mono (by have:=hbj.size;simp;omega)))⟩
         case measure=>simp [intOf];omega
       ·go_wp2
        go_roundw
        case rel =>
         refine⟨i+1,by omega,by go_num,?_,hbj2⟩
         unfold Hid
         rw [range_all_succ,HB.out,getD_at _ _ _ hlt,bodyOk,decide_eq_true hb4]
         have:=HJ.out
         rw [all_take_all _ _ _ (by omega)] at this
         rw [this];rfl
        case measure=>simp [intOf];omega
    ·go_wp2
     go_ret
     refine⟨?_,hb2.trans (hbr.mono (by rw [HZ.out];omega))⟩
     obtain rfl:i=p.bodies.length:=by omega
     have hB:=HB.out;have hN:=hnum.out;have h4:=HB4.out
     simp only [formOk,bodiesOk,hB,hN,h4,decide_eq_true hc3];rfl
end Go.Proofs.YtjacjafmimgfcaaGreat
