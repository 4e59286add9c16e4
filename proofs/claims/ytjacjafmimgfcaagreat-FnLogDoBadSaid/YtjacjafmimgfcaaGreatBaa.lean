/- What is done at once is what was read, and put: plain laws of logDo.; Both programs' LogDo, whole; the program's LogReplay.; FnLogDoBad: the walk of the law. -/
import Derived.Deep.RegionHeld3
import Derived.Deep.DrawnRows
import Derived.Test.YtjacjafmimgfcaaGreatWag
import Derived.Test.YtjacjafmimgfcaaGreatWaz
import Derived.Test.YtjacjafmimgfcaaGreatWbt
import Derived.Test.YtjacjafmimgfcaaGreatWbv
set_option linter.unusedVariables false
set_option linter.unusedSimpArgs false
namespace Go.Proofs.YtjacjafmimgfcaaGreat
theorem logDo_nobody (p:Prog)(s:Sys)(l:List Entry)(e:Entry)(he:e.task=s.tasks.length):logDo p s (l ++ [e])=none:=by
 unfold logDo
 split
 ·have h1:∀ cr,logDo1 p s cr e=none:=fun cr=>by
   unfold logDo1 entryDeeds
   rw [if_neg (by rw [he];simp [inR];omega)]
  have h2:∀ (l:List Entry) cr,logDos p s cr (l ++ [e])=none:=by
   intro l
   induction l with
   | nil=>intro cr;simp only [List.nil_append,logDos];rw [h1]
   | cons x r ih =>
    intro cr
    simp only [List.cons_append,logDos]
    split
    ·rfl
    ·exact ih _
  exact h2 l _
 ·rfl
end Go.Proofs.YtjacjafmimgfcaaGreat
namespace Go.Proofs.YtjacjafmimgfcaaGreat
open Go.RowKit
attribute [local go_sem ↓] Go.wp_at_zero Go.wp_at_succ
theorem specLogDo_calls (p:Prog)(s:Sys)(l:List Entry)(P Q A B C L:Option Addr)(cp cq ca cb cc cl:Nat)(w:World)(S:Nat→Prop)(hP:Row Kd.int w S P p.cells)(hQ:Row (Kd.slice kAct) w S Q p.bodies)(hS:SysR w S s A B C)(hL:Row kEntry w S L l)(hSS:∀ k,S k→k<w.heap.size)(hi:∀ e ∈ l,∀ x ∈ e.puts,isI x.num) :
  Calls Tryz.prog 10 #[.agg #[.slice P p.cells.length cp,.slice Q p.bodies.length cq],.agg #[.slice A s.cells.length ca,.slice B s.tasks.length cb,.int .i64 s.clock,.slice C s.log.length cc],.slice L l.length cl] w fun e w'=>ResLogDo (logDo p s l) w.heap.size e w'∧Below w.heap.size w w':=by
 cases hok:sysOk p s with
 | true=>exact specLogDo_good p s l P Q A B C L cp cq ca cb cc cl w S hP hQ hS hL hSS hi hok
 | false=>exact specLogDo_bad p s l P Q A B C L cp cq ca cb cc cl w S hP hQ hS hok
theorem implLogDo_calls (p:Prog)(s:Sys)(l:List Entry)(P Q A B C L:Option Addr)(cp cq ca cb cc cl:Nat)(w:World)(S:Nat→Prop)(hP:Row Kd.int w S P p.cells)(hQ:Row (Kd.slice kAct) w S Q p.bodies)(hS:SysR w S s A B C)(hL:Row kEntry w S L l)(hSS:∀ k,S k→k<w.heap.size)(hi:∀ e ∈ l,∀ x ∈ e.puts,isI x.num) :
  Calls Tryz.prog 14 #[.agg #[.slice P p.cells.length cp,.slice Q p.bodies.length cq],.agg #[.slice A s.cells.length ca,.slice B s.tasks.length cb,.int .i64 s.clock,.slice C s.log.length cc],.slice L l.length cl] w fun e w'=>ResLogDo (logDo p s l) w.heap.size e w'∧Below w.heap.size w w':=by
 cases hok:sysOk p s with
 | true=>exact implLogDo_good p s l P Q A B C L cp cq ca cb cc cl w S hP hQ hS hL hSS hi hok
 | false=>exact implLogDo_bad p s l P Q A B C L cp cq ca cb cc cl w S hP hQ hS hok
def lc (r:Option (List Int × List (List Int))):List Int:=match r with | none=>[] | some x=>x.1
def lr (r:Option (List Int × List (List Int))):List (List Int):=match r with | none=>[] | some x=>x.2
theorem resLogDo_open {r:Option (List Int × List (List Int))}{B:Nat}{e:Ending}{w':World}(h:ResLogDo r B e w'):∃ A1 c1 A2 c2,e=.returned (.tuple #[.slice A1 (lc r).length c1,.slice A2 (lr r).length c2,.bool r.isSome])∧Row Kd.int w' (fun k=>B≤k) A1 (lc r)∧Row (Kd.slice Kd.int) w' (fun k=>B≤k) A2 (lr r):=by
 match r,h with
 | none,h=>obtain⟨A1,A2,rfl⟩:=h;exact⟨A1,0,A2,0,rfl,⟨by simp [lc],fun h=>absurd rfl h⟩,⟨by simp [lr],fun h=>absurd rfl h⟩⟩
 | some (c,rs),h =>
  obtain⟨vc,vr,rfl,hc,hr⟩:=h
  obtain⟨A1,c1,rfl,_,h1⟩:=hc.row
  obtain⟨A2,c2,rfl,_,h2⟩:=Own.row hr
  exact⟨A1,c1,A2,c2,rfl,h1.mono fun k hk=>(hc.blk k hk).1,h2⟩
theorem resLogDo_none {B:Nat}{e:Ending}{w':World}(h:ResLogDo none B e w'):∃ A1 A2,e=.returned (.tuple #[.slice A1 0 0,.slice A2 0 0,.bool false])∧Row Kd.int w' (fun k=>B≤k) A1 []∧Row (Kd.slice Kd.int) w' (fun k=>B≤k) A2 []:=by
 obtain⟨A1,A2,rfl⟩:=h
 exact⟨A1,A2,rfl,⟨by simp,fun h=>absurd rfl h⟩,⟨by simp,fun h=>absurd rfl h⟩⟩
theorem resLogDo_some {c:List Int}{rs:List (List Int)}{B:Nat}{e:Ending}{w':World}(h:ResLogDo (some (c,rs)) B e w'):∃ A1 c1 A2 c2,e=.returned (.tuple #[.slice A1 c.length c1,.slice A2 rs.length c2,.bool true])∧Row Kd.int w' (fun k=>B≤k) A1 c∧Row (Kd.slice Kd.int) w' (fun k=>B≤k) A2 rs:=resLogDo_open h
theorem logDo_cells {p:Prog}{s:Sys}{l:List Entry}{x:List Int × List (List Int)}(h:logDo p s l=some x):p.cells.length≤1000:=by
 unfold logDo at h
 split at h
 ·rename_i hok;exact(sysOk_use hok).2.2.2.2.1
 ·cases h
end Go.Proofs.YtjacjafmimgfcaaGreat
namespace Go.Proofs.YtjacjafmimgfcaaGreat
open Go.RowKit
attribute [local go_sem ↓] Go.wp_at_zero Go.wp_at_succ
theorem own_empty_at {w:World}{B:Nat}(b:Nat)(hB:B≤w.heap.size)(hb:b=w.heap.size):Own kEntry 68 (w.alloc (.cells #[] 68)) B (fun k=>B≤k) (.slice (some ⟨b,0,none⟩) 0 0) []:=by
 subst hb
 exact Own.empty_ _ _ _ _ _ hB hB
theorem own_row9 {w:World}{B n c:Nat}{S:Nat→Prop}{A:Option Addr}{xs:List Entry}(h:Own kEntry 68 w B S (.slice A n c) xs):Row kEntry w S A xs:=by
 obtain⟨A',c',e,_,hr⟩:=Own.row h
 injection e with e1 _ _
 subst e1
 exact hr
theorem entry_none (w:World)(S:Nat→Prop)(n:Int):kEntry.K w S ⟨n,0,0,[],[],0⟩ [.int .i64 n,.int .i64 0,.int .i64 0,.slice none 0 0,.slice none 0 0,.int .i64 0] :=
 ⟨_,_,rfl,⟨none,0,rfl,Nat.le_refl _,by simp,fun h=>absurd rfl h⟩,⟨none,0,rfl,Nat.le_refl _,by simp,fun h=>absurd rfl h⟩⟩
set_option maxHeartbeats 8000000 in
set_option maxRecDepth 100000 in
theorem fnLogDoBad_calls (xs:List Int)(A:Option Addr)(c:Nat)(w:World)(S:Nat→Prop)(hr:Row Kd.byte w S A xs)(hS:∀ k,S k→k<w.heap.size)(hc:xs.length≤c) :
  Calls Tryz.prog 6 #[.slice A xs.length c] w fun e w'=>e=.returned (.bool true)∧Below w.heap.size w w':=by
 by_cases hbig:1048576<xs.length
 ·have hb:(1048576:Int)<xs.length:=by omega
  go_enter Tryz.func6,Tryz.ntmps6
  go_wp2
  go_ret
  exact⟨rfl,Below.refl _ _⟩
 ·have hb:¬ (1048576:Int)<xs.length:=by omega
  have tok1:True:=trivial
  have tok2:True:=trivial
  go_enter Tryz.func6,Tryz.ntmps6
  go_wp2_with (first | (go_at_call 27;go_must (refine(drawLogDo_calls xs A c _ S hr hS hc).mono ?_;rintro e w1 ⟨_,rfl,⟨p,s,l,P,Q,A2,B2,C2,L,cp,cq,ca,cb,cc,cl,rfl,hP,hQ,hSy,hL,hfew⟩,hb1⟩;have HD:=Lib.hid (And.intro hP (And.intro hQ (And.intro hSy (And.intro hL hfew))));have HB1:=Lib.hid hb1;have hz1:=hb1.size;clear hP hQ hSy hL hfew hb1)) | (go_at_call 10;fail))
  obtain⟨X,hX⟩:∃ X,X=(w1.alloc (.cells #[.slice P p.cells.length cp,.slice Q p.bodies.length cq] 39)).alloc (.cells #[.slice A2 s.cells.length ca,.slice B2 s.tasks.length cb,.int .i64 s.clock,.slice C2 s.log.length cc] 45):=⟨_,rfl⟩
  have hzX:X.heap.size=w1.heap.size+1+1:=by rw [hX];simp
  have HX:=Lib.hid (show _∧Below w1.heap.size w1 X∧X.heap[w1.heap.size]?=some (.cells #[.slice P p.cells.length cp,.slice Q p.bodies.length cq] 39 (0,0))∧X.heap[w1.heap.size+1]?=some (.cells #[.slice A2 s.cells.length ca,.slice B2 s.tasks.length cb,.int .i64 s.clock,.slice C2 s.log.length cc] 45 (0,0)) from ⟨hX,by rw [hX];exact alB2 w1 _ _,by rw [hX];exact two_first _ _ _,by rw [hX];exact two_second _ _ _⟩)
  clear hX hr hS hc
  cases hrun:logDo p s l with
  | none =>
   have HR:=Lib.hid hrun
   clear hrun
   go_wp2_with (first
    | (go_at_call 10;go_must (rw [← HX.out.1];refine(specLogDo_calls p s l P Q A2 B2 C2 L cp cq ca cb cc cl X (fun k=>w.heap.size≤k∧k<w1.heap.size) (HD.out.1.belowAll HX.out.2.1) (HD.out.2.1.belowAll HX.out.2.1) (HD.out.2.2.1.below HX.out.2.1) (HD.out.2.2.2.1.belowAll HX.out.2.1) (fun k hk=>by have:=hk.2;omega) HD.out.2.2.2.2.isI).mono ?_;rintro e w2 ⟨hres,hb2⟩;rw [HR.out] at hres;obtain⟨A5,A6,rfl,h5,h6⟩:=resLogDo_none hres;have hz2:=hb2.size;have x0:=(hb2.block w1.heap.size (by omega)).trans HX.out.2.2.1;have x1:=(hb2.block (w1.heap.size+1) (by omega)).trans HX.out.2.2.2;have p0:=cell_of_row _ _ 0 _ _ _ x0;have p1:=cell_of_row _ _ 1 _ _ _ x0;have s0:=cell_of_row _ _ 0 _ _ _ x1;have s1:=cell_of_row _ _ 1 _ _ _ x1;have s2:=cell_of_row _ _ 2 _ _ _ x1;have s3:=cell_of_row _ _ 3 _ _ _ x1;simp at p0 p1 s0 s1 s2 s3;have HX2:=Lib.hid (And.intro x0 x1);have HB2:=Lib.hid (belowTwo HX.out.2.1 (by omega) (Nat.le_refl _) hb2);have HS5:=Lib.hid (And.intro h5 h6);clear x0 x1 hb2 h5 h6 hres)) | (go_at_call 14;go_must (refine(implLogDo_calls p s l P Q A2 B2 C2 L cp cq ca cb cc cl w2 (fun k=>w.heap.size≤k∧k<w1.heap.size) (HD.out.1.belowAll HB2.out) (HD.out.2.1.belowAll HB2.out) (HD.out.2.2.1.below HB2.out) (HD.out.2.2.2.1.belowAll HB2.out) (fun k hk=>by have:=hk.2;omega) HD.out.2.2.2.2.isI).mono ?_;rintro e w3 ⟨hres,hb3⟩;rw [HR.out] at hres;obtain⟨A7,A8,rfl,h7,h8⟩:=resLogDo_none hres;have hz3:=hb3.size;clear p0 p1 s0 s1 s2 s3;have x0:=(hb3.block w1.heap.size (by omega)).trans HX2.out.1;have x1:=(hb3.block (w1.heap.size+1) (by omega)).trans HX2.out.2;have p0:=cell_of_row _ _ 0 _ _ _ x0;have p1:=cell_of_row _ _ 1 _ _ _ x0;have s0:=cell_of_row _ _ 0 _ _ _ x1;have s1:=cell_of_row _ _ 1 _ _ _ x1;have s2:=cell_of_row _ _ 2 _ _ _ x1;have s3:=cell_of_row _ _ 3 _ _ _ x1;simp at p0 p1 s0 s1 s2 s3;have HX3:=Lib.hid (And.intro x0 x1);have HB3:=Lib.hid (belowTwo HB2.out (by omega) (Nat.le_refl _) hb3);have HS7:=Lib.hid (And.intro (And.intro h7 h8) (And.intro (HS5.out.1.belowAll hb3) (HS5.out.2.belowAll hb3)));clear x0 x1 hb3 h7 h8 hres)) | (go_at_call 28;have _t:=tok1;go_must (refine(lqInts_calls ([]:List Int) [] A7 A5 0 0 w3 _ _ HS7.out.1.1 HS7.out.2.1).mono ?_;rintro e w4 ⟨rfl,hbw4⟩;rw [show decide (([]:List Int)=[])=true from decide_eq_true rfl];have hz4:=hbw4.size;have HB4:=Lib.hid (belowTwo HB3.out (by omega) (Nat.le_refl _) hbw4);have HS4:=Lib.hid (And.intro (HS7.out.1.1.belowAll hbw4) (HS7.out.2.1.belowAll hbw4));clear hbw4;clear tok1)) | (go_at_call 28;have _t:=tok2;go_must (refine(lqInts_calls ([]:List Int) [] A7 A5 0 0 w4 _ _ HS4.out.1 HS4.out.2).mono ?_;rintro e w5 ⟨rfl,hbw5⟩;rw [show decide (([]:List Int)=[])=true from decide_eq_true rfl];have HBE:=Lib.hid (belowTwo HB1.out hz1 (Nat.le_refl _) (belowTwo HB4.out (by omega) (Nat.le_refl _) hbw5));clear hbw5;clear tok2)))
   go_ret
   exact⟨rfl,HBE.out⟩
  | some x =>
   obtain⟨c9,rs⟩:=x
   have HR:=Lib.hid hrun
   have HNB:=Lib.hid (logDo_nobody p s l ⟨s.tasks.length,0,0,[],[],0⟩ rfl)
   have HLR9:=Lib.hid (show ∀ w4,Below w1.heap.size w1 w4→Row kEntry w4 (fun k=>w.heap.size≤k∧k<w1.heap.size) L l from fun w4 hb=>HD.out.2.2.2.1.belowAll hb)
   clear hrun
   go_wp2_with (first
    | (go_at_call 10;go_must (rw [← HX.out.1];refine(specLogDo_calls p s l P Q A2 B2 C2 L cp cq ca cb cc cl X (fun k=>w.heap.size≤k∧k<w1.heap.size) (HD.out.1.belowAll HX.out.2.1) (HD.out.2.1.belowAll HX.out.2.1) (HD.out.2.2.1.below HX.out.2.1) (HD.out.2.2.2.1.belowAll HX.out.2.1) (fun k hk=>by have:=hk.2;omega) HD.out.2.2.2.2.isI).mono ?_;rintro e w2 ⟨hres,hb2⟩;rw [HR.out] at hres;obtain⟨A5,c5,A6,c6,rfl,h5,h6⟩:=resLogDo_some hres;have hz2:=hb2.size;have x0:=(hb2.block w1.heap.size (by omega)).trans HX.out.2.2.1;have x1:=(hb2.block (w1.heap.size+1) (by omega)).trans HX.out.2.2.2;have p0:=cell_of_row _ _ 0 _ _ _ x0;have p1:=cell_of_row _ _ 1 _ _ _ x0;have s0:=cell_of_row _ _ 0 _ _ _ x1;have s1:=cell_of_row _ _ 1 _ _ _ x1;have s2:=cell_of_row _ _ 2 _ _ _ x1;have s3:=cell_of_row _ _ 3 _ _ _ x1;simp at p0 p1 s0 s1 s2 s3;have HX2:=Lib.hid (And.intro x0 x1);have HB2:=Lib.hid (belowTwo HX.out.2.1 (by omega) (Nat.le_refl _) hb2);have HS5:=Lib.hid (And.intro h5 h6);clear x0 x1 hb2 h5 h6 hres)) | (go_at_call 14;go_must (refine(implLogDo_calls p s l P Q A2 B2 C2 L cp cq ca cb cc cl w2 (fun k=>w.heap.size≤k∧k<w1.heap.size) (HD.out.1.belowAll HB2.out) (HD.out.2.1.belowAll HB2.out) (HD.out.2.2.1.below HB2.out) (HD.out.2.2.2.1.belowAll HB2.out) (fun k hk=>by have:=hk.2;omega) HD.out.2.2.2.2.isI).mono ?_;rintro e w3 ⟨hres,hb3⟩;rw [HR.out] at hres;obtain⟨A7,c7,A8,c8,rfl,h7,h8⟩:=resLogDo_some hres;have hz3:=hb3.size;clear p0 p1 s0 s1 s2 s3;have x0:=(hb3.block w1.heap.size (by omega)).trans HX2.out.1;have x1:=(hb3.block (w1.heap.size+1) (by omega)).trans HX2.out.2;have p0:=cell_of_row _ _ 0 _ _ _ x0;have p1:=cell_of_row _ _ 1 _ _ _ x0;have s0:=cell_of_row _ _ 0 _ _ _ x1;have s1:=cell_of_row _ _ 1 _ _ _ x1;have s2:=cell_of_row _ _ 2 _ _ _ x1;have s3:=cell_of_row _ _ 3 _ _ _ x1;simp at p0 p1 s0 s1 s2 s3;have HX3:=Lib.hid (And.intro x0 x1);have HB3:=Lib.hid (belowTwo HB2.out (by omega) (Nat.le_refl _) hb3);have HS7:=Lib.hid (And.intro (And.intro h7 h8) (And.intro (HS5.out.1.belowAll hb3) (HS5.out.2.belowAll hb3)));clear x0 x1 hb3 h7 h8 hres)) | (go_at_call 28;have _t:=tok1;go_must (refine(lqInts_calls c9 c9 A7 A5 c7 c5 w3 _ _ HS7.out.1.1 HS7.out.2.1).mono ?_;rintro e w4 ⟨rfl,hbw4⟩;rw [show decide (c9=c9)=true from decide_eq_true rfl];have hz4:=hbw4.size;clear p0 p1 s0 s1 s2 s3;have x0:=(hbw4.block w1.heap.size (by omega)).trans HX3.out.1;have x1:=(hbw4.block (w1.heap.size+1) (by omega)).trans HX3.out.2;have p0:=cell_of_row _ _ 0 _ _ _ x0;have p1:=cell_of_row _ _ 1 _ _ _ x0;have s0:=cell_of_row _ _ 0 _ _ _ x1;have s1:=cell_of_row _ _ 1 _ _ _ x1;have s2:=cell_of_row _ _ 2 _ _ _ x1;have s3:=cell_of_row _ _ 3 _ _ _ x1;simp at p0 p1 s0 s1 s2 s3;have HX4:=Lib.hid (And.intro x0 x1);have HB4:=Lib.hid (belowTwo HB3.out (by omega) (Nat.le_refl _) hbw4);clear hbw4 x0 x1;clear tok1)))
   have HLR:=Lib.hid (HLR9.out w4 HB4.out)
   have hlt1:w1.heap.size<w4.heap.size:=by omega
   have hlt2:w1.heap.size+1<w4.heap.size:=by omega
   have HISI:Hid (∀ e ∈ l ++ [⟨s.tasks.length,0,0,[],[],0⟩],∀ x ∈ e.puts,isI x.num):=Lib.hid (fun e he x hx=>by
    rw [List.mem_append,List.mem_singleton] at he
    rcases he with he | he
    ·exact HD.out.2.2.2.2.isI e he x hx
    ·subst he;simp at hx)
   have HP:Hid (∀ w',Below w4.heap.size w4 w'→w'.cell? ⟨w1.heap.size,0,none⟩=some (.slice P p.cells.length cp)∧w'.cell? ⟨w1.heap.size,1,none⟩=some (.slice Q p.bodies.length cq)∧w'.cell? ⟨w1.heap.size+1,0,none⟩=some (.slice A2 s.cells.length ca)∧w'.cell? ⟨w1.heap.size+1,1,none⟩=some (.slice B2 s.tasks.length cb)∧w'.cell? ⟨w1.heap.size+1,2,none⟩=some (.int .i64 s.clock)∧w'.cell? ⟨w1.heap.size+1,3,none⟩=some (.slice C2 s.log.length cc)):=Lib.hid (fun w' hb=>⟨(hb.cell (p:=⟨w1.heap.size,0,none⟩) hlt1).trans p0,(hb.cell (p:=⟨w1.heap.size,1,none⟩) hlt1).trans p1,(hb.cell (p:=⟨w1.heap.size+1,0,none⟩) hlt2).trans s0,(hb.cell (p:=⟨w1.heap.size+1,1,none⟩) hlt2).trans s1,(hb.cell (p:=⟨w1.heap.size+1,2,none⟩) hlt2).trans s2,(hb.cell (p:=⟨w1.heap.size+1,3,none⟩) hlt2).trans s3⟩)
   refine wp_region_held_drew (S:=(fun w'=>w'.cell? ⟨w1.heap.size,0,none⟩=some (.slice P p.cells.length cp)∧w'.cell? ⟨w1.heap.size,1,none⟩=some (.slice Q p.bodies.length cq)∧w'.cell? ⟨w1.heap.size+1,0,none⟩=some (.slice A2 s.cells.length ca)∧w'.cell? ⟨w1.heap.size+1,1,none⟩=some (.slice B2 s.tasks.length cb)∧w'.cell? ⟨w1.heap.size+1,2,none⟩=some (.int .i64 s.clock)∧w'.cell? ⟨w1.heap.size+1,3,none⟩=some (.slice C2 s.log.length cc))) (by kernel_rfl) (by (try dsimp only)<;>(first | (go_keep;done) | exact⟨p0,p1,s0,s1,s2,s3⟩)) (fun hHeld=>?_)
   refine wpAnyH_take (i:=0) (v:=_) rfl (by kernel_rfl) (by kernel_rfl) (by kernel_rfl) (fun _ _ _ h=>h) (Or.inl ⟨by rfl,by (intro w hSw;(try dsimp only at hSw);go_simp<;>with_reducible rfl)⟩) (by assumption) ?_
   (try simp only [q1,q2,q3,Act.put,q4,q5,q6])
   refine wpAnyH_take (i:=1) (v:=_) rfl (by kernel_rfl) (by kernel_rfl) (by kernel_rfl) (fun _ _ _ h=>h) (Or.inl ⟨by rfl,by (intro w hSw;(try dsimp only at hSw);go_simp<;>with_reducible rfl)⟩) (by assumption) ?_
   (try simp only [q1,q2,q3,Act.put,q4,q5,q6])
   refine wpAnyH_take (i:=3) (v:=_) rfl (by kernel_rfl) (by kernel_rfl) (by kernel_rfl) (fun _ _ _ h=>h) (Or.inl ⟨by rfl,by (intro w hSw;(try dsimp only at hSw);go_simp<;>with_reducible rfl)⟩) (by assumption) ?_
   (try simp only [q1,q2,q3,Act.put,q4,q5,q6])
   refine wpAnyH_take (i:=5) (v:=_) rfl (by kernel_rfl) (by kernel_rfl) (by kernel_rfl) (fun _ _ _ h=>h) (Or.inl ⟨by rfl,by (intro w hSw;(try dsimp only at hSw);go_simp<;>with_reducible rfl)⟩) (by assumption) ?_
   (try simp only [q1,q2,q3,Act.put,q4,q5,q6])
   refine wpAnyH_take (i:=6) (v:=_) rfl (by kernel_rfl) (by kernel_rfl) (by kernel_rfl) (fun _ _ _ h=>h) (Or.inl ⟨by rfl,by (intro w hSw;(try dsimp only at hSw);go_simp<;>with_reducible rfl)⟩) (by assumption) ?_
   (try simp only [q1,q2,q3,Act.put,q4,q5,q6])
   refine wpAnyH_take (i:=7) (v:=_) rfl (by kernel_rfl) (by kernel_rfl) (by kernel_rfl) (fun _ _ _ h=>h) (Or.inl ⟨by rfl,by (intro w hSw;(try dsimp only at hSw);go_simp<;>with_reducible rfl)⟩) (by assumption) ?_
   (try simp only [q1,q2,q3,Act.put,q4,q5,q6])
   refine wpAnyH_take (i:=8) (v:=_) rfl (by kernel_rfl) (by kernel_rfl) (by kernel_rfl) (fun _ _ _ h=>h) (Or.inl ⟨by rfl,by (intro w hSw;(try dsimp only at hSw);go_simp<;>with_reducible rfl)⟩) (by assumption) ?_
   (try simp only [q1,q2,q3,Act.put,q4,q5,q6])
   refine wpAnyH_ready (rs:=[2,9]) (by kernel_rfl) (by simp) (AllReadyH.cons rfl (fun Kq hKq=>?_) (AllReadyH.cons rfl (fun Kq hKq=>?_) AllReadyH.nil))
   focus
    (try simp only [q1,q2,q3])
    refine step_fold (a:=⟨_,_⟩) ?_
    go_simp
    refine hKq.out _ _ (by (try dsimp only)<;>(first | (go_keep;done) | exact⟨p0,p1,s0,s1,s2,s3⟩)) (fun hHeld=>?_)
    clear hKq Kq
    (try simp only [q1,q2,q3,Act.put,q4,q5,q6])
    refine wpAnyH_ready (rs:=[4,9]) (by kernel_rfl) (by simp) (AllReadyH.cons rfl (fun Kq hKq=>?_) (AllReadyH.cons rfl (fun Kq hKq=>?_) AllReadyH.nil))
    focus
     (try simp only [q1,q2,q3])
     refine step_fold (a:=⟨_,_⟩) ?_
     (refine step_append_kd (d:=kEntry) (by rfl) _ _ _ (by rfl) Tryz.underlying43 _ 80 infoEntry rfl (by decide) (by decide) (by rfl) (own_empty_at (w:=w4.drew) w4.heap.size (B:=w4.heap.size) (Nat.le_refl _) rfl) L cl (by rfl) (HLR.out.belowAll ((Below.refl _ w4).drew.alloc (Nat.le_refl _) (.cells #[] 68))) (fun k hk e=>by have h9:=(Own.blk (own_empty_at (w:=w4.drew) w4.heap.size (B:=w4.heap.size) (Nat.le_refl _) rfl) k e.symm).1;have:=hk.2;omega) (by have:=HD.out.2.2.2.2.1;(try simp);omega) (by simp<;>omega) ?_;intro v5 w5 ho5 hg5 hv5;have hk5:=Keep.of_grown (T:=fun k=>(Value.slice (some ⟨w4.heap.size,0,none⟩) 0 0).ownBlock=some k) hg5 (fun k e=>e);have hb5:Below w4.heap.size w4 w5:=belowTwo ((Below.refl _ w4).drew.alloc (Nat.le_refl _) (.cells #[] 68)) (Nat.le_refl _) (Nat.le_refl _) (hk5.below (B:=w4.heap.size) (fun k h1 h2=>by simp [Value.ownBlock] at h2;omega) (by simp<;>omega));have hz5:=hk5.size;simp at hz5;obtain⟨y0,y1,y2,y3,y4,y5⟩:=HP.out _ hb5;have HO5:=Lib.hid ho5;have HB5:=Lib.hid hb5;clear ho5 hg5 hb5)
     refine hKq.out _ _ (by (try dsimp only)<;>(first | exact⟨y0,y1,y2,y3,y4,y5⟩ | (go_keep;done))) (fun hHeld=>?_)
     clear hKq Kq
     (try simp only [q1,q2,q3,Act.put,q4,q5,q6])
     refine wpAnyH_ready (rs:=[9]) (by kernel_rfl) (by simp) (AllReadyH.cons rfl (fun Kq hKq=>?_) AllReadyH.nil)
     (try simp only [q1,q2,q3])
     refine step_fold (a:=⟨_,_⟩) ?_
     go_simp
     refine hKq.out _ _ (by (try dsimp only)<;>(first | exact⟨y0,y1,y2,y3,y4,y5⟩ | (go_keep;done))) (fun hHeld=>?_)
     clear hKq Kq
     (try simp only [q1,q2,q3,Act.put,q4,q5,q6])
     refine wpAnyH_ready (rs:=[10]) (by kernel_rfl) (by simp) (AllReadyH.cons rfl (fun Kq hKq=>?_) AllReadyH.nil)
     (try simp only [q1,q2,q3])
     refine step_fold (a:=⟨_,_⟩) ?_
     (refine step_append_kd (d:=kEntry) (by rfl) _ _ _ (by rfl) Tryz.underlying43 _ 80 infoEntry rfl (by decide) (by decide) (by rfl) (Own.belowAll HO5.out (alB w5 _)) _ 1 (by rfl) (rowOneAt (d:=kEntry) (e:=68) (S:=fun _=>False) (x:=⟨s.tasks.length,0,0,[],[],0⟩) w5.heap.size (entry_none _ _ _) rfl) (fun k hk e=>by have h9:=Own.blk HO5.out k e.symm;rcases hk with hk | hk;exact hk;omega) (by have:=HD.out.2.2.2.2.1;(try simp);omega) (by (try simp);omega) ?_;intro v6 w6 ho6 hg6 hv6;have hk6:=Keep.of_grown (T:=fun k=>v5.ownBlock=some k) hg6 (fun k e=>e);have hb6:Below w4.heap.size w4 w6:=belowTwo (HB5.out.alloc HB5.out.size _) (Nat.le_refl _) (Nat.le_refl _) (hk6.below (B:=w4.heap.size) (fun k h1 h2=>by have:=(Own.blk HO5.out k h2).1;omega) (by (try simp);omega));have hz6:=hb6.size;obtain⟨y0,y1,y2,y3,y4,y5⟩:=HP.out _ hb6;have HB6:=Lib.hid hb6;obtain⟨A9,c9',rfl,_⟩:=Own.slice ho6;have HR6:=Lib.hid ((own_row9 ho6).bound.mono (S':=fun k=>w.heap.size≤k∧k<w6.heap.size) (fun k hk=>⟨by have h0:=hk.1;simp at h0;omega,hk.2⟩));clear ho6 hg6 hb6)
     refine hKq.out _ _ (by (try dsimp only)<;>(first | exact⟨y0,y1,y2,y3,y4,y5⟩ | (go_keep;done))) (fun hHeld=>?_)
     clear hKq Kq
     (try simp only [q1,q2,q3,Act.put,q4,q5,q6])
    rotate_left
    focus
     (try simp only [q1,q2,q3])
     refine step_fold (a:=⟨_,_⟩) ?_
     go_simp
     refine hKq.out _ _ (by (try dsimp only)<;>(first | (go_keep;done) | exact⟨p0,p1,s0,s1,s2,s3⟩)) (fun hHeld=>?_)
     clear hKq Kq
     (try simp only [q1,q2,q3,Act.put,q4,q5,q6])
     refine wpAnyH_ready (rs:=[4]) (by kernel_rfl) (by simp) (AllReadyH.cons rfl (fun Kq hKq=>?_) AllReadyH.nil)
     (try simp only [q1,q2,q3])
     refine step_fold (a:=⟨_,_⟩) ?_
     (refine step_append_kd (d:=kEntry) (by rfl) _ _ _ (by rfl) Tryz.underlying43 _ 80 infoEntry rfl (by decide) (by decide) (by rfl) (Own.belowAll (own_empty_at (w:=w4.drew) w4.heap.size (B:=w4.heap.size) (Nat.le_refl _) rfl) (alB _ (.cells #[.int .i64 s.tasks.length,.int .i64 0,.int .i64 0,.slice none 0 0,.slice none 0 0,.int .i64 0] 68))) L cl (by rfl) (HLR.out.belowAll (((Below.refl _ w4).drew.alloc (Nat.le_refl _) (.cells #[] 68)).alloc (by simp) (.cells #[.int .i64 s.tasks.length,.int .i64 0,.int .i64 0,.slice none 0 0,.slice none 0 0,.int .i64 0] 68))) (fun k hk e=>by have h9:=(Own.blk (Own.belowAll (own_empty_at (w:=w4.drew) w4.heap.size (B:=w4.heap.size) (Nat.le_refl _) rfl) (alB _ (.cells #[.int .i64 s.tasks.length,.int .i64 0,.int .i64 0,.slice none 0 0,.slice none 0 0,.int .i64 0] 68))) k e.symm).1;have:=hk.2;omega) (by have:=HD.out.2.2.2.2.1;(try simp);omega) (by simp<;>omega) ?_;intro v5 w5 ho5 hg5 hv5;have hk5:=Keep.of_grown (T:=fun k=>(Value.slice (some ⟨w4.heap.size,0,none⟩) 0 0).ownBlock=some k) hg5 (fun k e=>e);have hb5:Below w4.heap.size w4 w5:=belowTwo (((Below.refl _ w4).drew.alloc (Nat.le_refl _) (.cells #[] 68)).alloc (by simp) (.cells #[.int .i64 s.tasks.length,.int .i64 0,.int .i64 0,.slice none 0 0,.slice none 0 0,.int .i64 0] 68)) (Nat.le_refl _) (Nat.le_refl _) (hk5.below (B:=w4.heap.size) (fun k h1 h2=>by simp [Value.ownBlock] at h2;omega) (by simp<;>omega));have hz5:=hk5.size;simp at hz5;obtain⟨y0,y1,y2,y3,y4,y5⟩:=HP.out _ hb5;have HO5:=Lib.hid ho5;have HO5B:Hid (∀ k,v5.ownBlock=some k→k≠w4.heap.size+1):=Lib.hid (fun k e h=>by rcases hv5 with h2 | h2<;>(rw [h2] at e;simp [Value.ownBlock] at e;omega));have HB5:=Lib.hid hb5;have HR1:=Lib.hid ((rowOneAt (d:=kEntry) (e:=68) (w:=w4.drew.alloc (.cells #[] 68)) (S:=fun _=>False) (x:=⟨s.tasks.length,0,0,[],[],0⟩) (w4.heap.size+1) (entry_none _ _ _) (by simp)).keep hk5 (fun k h1 _ h2=>by simp [Value.ownBlock] at h2;rcases h1 with h1 | h1;exact h1;omega));clear ho5 hg5 hb5)
     refine hKq.out _ _ (by (try dsimp only)<;>(first | exact⟨y0,y1,y2,y3,y4,y5⟩ | (go_keep;done))) (fun hHeld=>?_)
     clear hKq Kq
     (try simp only [q1,q2,q3,Act.put,q4,q5,q6])
   rotate_left 2
   focus
    (try simp only [q1,q2,q3])
    refine step_fold (a:=⟨_,_⟩) ?_
    go_simp
    refine hKq.out _ _ (by (try dsimp only)<;>(first | (go_keep;done) | exact⟨p0,p1,s0,s1,s2,s3⟩)) (fun hHeld=>?_)
    clear hKq Kq
    (try simp only [q1,q2,q3,Act.put,q4,q5,q6])
    refine wpAnyH_ready (rs:=[2]) (by kernel_rfl) (by simp) (AllReadyH.cons rfl (fun Kq hKq=>?_) AllReadyH.nil)
    (try simp only [q1,q2,q3])
    refine step_fold (a:=⟨_,_⟩) ?_
    go_simp
    refine hKq.out _ _ (by (try dsimp only)<;>(first | (go_keep;done) | exact⟨p0,p1,s0,s1,s2,s3⟩)) (fun hHeld=>?_)
    clear hKq Kq
    (try simp only [q1,q2,q3,Act.put,q4,q5,q6])
    refine wpAnyH_ready (rs:=[4]) (by kernel_rfl) (by simp) (AllReadyH.cons rfl (fun Kq hKq=>?_) AllReadyH.nil)
    (try simp only [q1,q2,q3])
    refine step_fold (a:=⟨_,_⟩) ?_
    (refine step_append_kd (d:=kEntry) (by rfl) _ _ _ (by rfl) Tryz.underlying43 _ 80 infoEntry rfl (by decide) (by decide) (by rfl) (own_empty_at (w:=w4.drew.alloc (.cells #[.int .i64 s.tasks.length,.int .i64 0,.int .i64 0,.slice none 0 0,.slice none 0 0,.int .i64 0] 68)) (w4.heap.size+1) (B:=w4.heap.size) (by simp) (by simp)) L cl (by rfl) (HLR.out.belowAll (((Below.refl _ w4).drew.alloc (Nat.le_refl _) (.cells #[.int .i64 s.tasks.length,.int .i64 0,.int .i64 0,.slice none 0 0,.slice none 0 0,.int .i64 0] 68)).alloc (by simp) (.cells #[] 68))) (fun k hk e=>by have h9:=(Own.blk (own_empty_at (w:=w4.drew.alloc (.cells #[.int .i64 s.tasks.length,.int .i64 0,.int .i64 0,.slice none 0 0,.slice none 0 0,.int .i64 0] 68)) (w4.heap.size+1) (B:=w4.heap.size) (by simp) (by simp)) k e.symm).1;have:=hk.2;omega) (by have:=HD.out.2.2.2.2.1;(try simp);omega) (by simp<;>omega) ?_;intro v5 w5 ho5 hg5 hv5;have hk5:=Keep.of_grown (T:=fun k=>(Value.slice (some ⟨w4.heap.size+1,0,none⟩) 0 0).ownBlock=some k) hg5 (fun k e=>e);have hb5:Below w4.heap.size w4 w5:=belowTwo (((Below.refl _ w4).drew.alloc (Nat.le_refl _) (.cells #[.int .i64 s.tasks.length,.int .i64 0,.int .i64 0,.slice none 0 0,.slice none 0 0,.int .i64 0] 68)).alloc (by simp) (.cells #[] 68)) (Nat.le_refl _) (Nat.le_refl _) (hk5.below (B:=w4.heap.size) (fun k h1 h2=>by simp [Value.ownBlock] at h2;omega) (by simp<;>omega));have hz5:=hk5.size;simp at hz5;obtain⟨y0,y1,y2,y3,y4,y5⟩:=HP.out _ hb5;have HO5:=Lib.hid ho5;have HO5B:Hid (∀ k,v5.ownBlock=some k→k≠w4.heap.size):=Lib.hid (fun k e h=>by rcases hv5 with h2 | h2<;>(rw [h2] at e;simp [Value.ownBlock] at e;omega));have HB5:=Lib.hid hb5;have HR1:=Lib.hid (((rowOneAt (d:=kEntry) (e:=68) (w:=w4.drew) (S:=fun _=>False) (x:=⟨s.tasks.length,0,0,[],[],0⟩) w4.heap.size (entry_none _ _ _) rfl).belowAll (alB _ (.cells #[] 68))).keep hk5 (fun k h1 _ h2=>by simp [Value.ownBlock] at h2;rcases h1 with h1 | h1;exact h1;omega));clear ho5 hg5 hb5)
    refine hKq.out _ _ (by (try dsimp only)<;>(first | exact⟨y0,y1,y2,y3,y4,y5⟩ | (go_keep;done))) (fun hHeld=>?_)
    clear hKq Kq
    (try simp only [q1,q2,q3,Act.put,q4,q5,q6])
   iterate 2
    focus
     refine wpAnyH_ready (rs:=[10]) (by kernel_rfl) (by simp) (AllReadyH.cons rfl (fun Kq hKq=>?_) AllReadyH.nil)
     (try simp only [q1,q2,q3])
     refine step_fold (a:=⟨_,_⟩) ?_
     (refine step_append_kd (d:=kEntry) (by rfl) _ _ _ (by rfl) Tryz.underlying43 _ 80 infoEntry rfl (by decide) (by decide) (by rfl) HO5.out _ 1 (by rfl) HR1.out (fun k hk e=>by have h9:=Own.blk HO5.out k e.symm;exact HO5B.out k e.symm (hk.elim False.elim id)) (by have:=HD.out.2.2.2.2.1;(try simp);omega) (by (try simp);omega) ?_;intro v6 w6 ho6 hg6 hv6;have hk6:=Keep.of_grown (T:=fun k=>v5.ownBlock=some k) hg6 (fun k e=>e);have hb6:Below w4.heap.size w4 w6:=belowTwo HB5.out (Nat.le_refl _) (Nat.le_refl _) (hk6.below (B:=w4.heap.size) (fun k h1 h2=>by have:=(Own.blk HO5.out k h2).1;omega) (by (try simp);omega));have hz6:=hb6.size;obtain⟨y0,y1,y2,y3,y4,y5⟩:=HP.out _ hb6;have HB6:=Lib.hid hb6;obtain⟨A9,c9',rfl,_⟩:=Own.slice ho6;have HR6:=Lib.hid ((own_row9 ho6).bound.mono (S':=fun k=>w.heap.size≤k∧k<w6.heap.size) (fun k hk=>⟨by have h0:=hk.1;simp at h0;omega,hk.2⟩));clear ho6 hg6 hb6)
     refine hKq.out _ _ (by (try dsimp only)<;>(first | exact⟨y0,y1,y2,y3,y4,y5⟩ | (go_keep;done))) (fun hHeld=>?_)
     clear hKq Kq
     (try simp only [q1,q2,q3,Act.put,q4,q5,q6])
    rotate_left
   all_goals
    refine wpAnyH_ready (rs:=[11]) (by kernel_rfl) (by simp) (AllReadyH.cons rfl (fun Kq hKq=>?_) AllReadyH.nil)
    (try simp only [q1,q2,q3])
    refine step_fold (a:=⟨_,_⟩) ?_
    go_simp
    (go_at_call 14;have HCI:=implLogDo_calls p s (l ++ [⟨s.tasks.length,0,0,[],[],0⟩]) P Q A2 B2 C2 A9 cp cq ca cb cc c9' w6 (fun k=>w.heap.size≤k∧k<w6.heap.size) (((HD.out.1.belowAll HB4.out).belowAll HB6.out).mono (fun k hk=>⟨hk.1,by have:=hk.2;omega⟩)) (((HD.out.2.1.belowAll HB4.out).belowAll HB6.out).mono (fun k hk=>⟨hk.1,by have:=hk.2;omega⟩)) (((HD.out.2.2.1.below HB4.out).below HB6.out).mono (fun k hk=>⟨hk.1,by have:=hk.2;omega⟩)) HR6.out (fun k hk=>hk.2) HISI.out;rw [show (l ++ [(⟨s.tasks.length,0,0,[],[],0⟩:Entry)]).length=l.length+1 from by simp] at HCI;refine HCI.mono ?_;clear HCI;rintro e7 w7 ⟨hres,hb7⟩;rw [HNB.out] at hres;obtain⟨A10,A11,rfl,_,_⟩:=resLogDo_none hres;have HBE:=Lib.hid (belowTwo HB1.out hz1 (Nat.le_refl _) (belowTwo HB4.out (by omega) (Nat.le_refl _) (belowTwo HB6.out (by omega) (Nat.le_refl _) hb7)));obtain⟨y0,y1,y2,y3,y4,y5⟩:=HP.out _ (belowTwo HB6.out (by omega) (Nat.le_refl _) hb7);clear hb7 hres)
    refine hKq.out _ _ (by (try dsimp only)<;>(first | exact⟨y0,y1,y2,y3,y4,y5⟩ | (go_keep;done))) (fun hHeld=>?_)
    clear hKq Kq
    (try simp only [q1,q2,q3,Act.put,q4,q5,q6])
    refine wpAnyH_take (i:=12) (v:=_) rfl (by kernel_rfl) (by kernel_rfl) (by kernel_rfl) (fun _ _ _ h=>h) (Or.inl ⟨by rfl,by (intro w hSw;(try dsimp only at hSw);go_simp<;>with_reducible rfl)⟩) (by assumption) ?_
    (try simp only [q1,q2,q3,Act.put,q4,q5,q6])
    refine wpAnyH_take (i:=13) (v:=_) rfl (by kernel_rfl) (by kernel_rfl) (by kernel_rfl) (fun _ _ _ h=>h) (Or.inl ⟨by rfl,by (intro w hSw;(try dsimp only at hSw);go_simp<;>with_reducible rfl)⟩) (by assumption) ?_
    (try simp only [q1,q2,q3,Act.put,q4,q5,q6])
    refine wpAnyH_take (i:=14) (v:=_) rfl (by kernel_rfl) (by kernel_rfl) (by kernel_rfl) (fun _ _ _ h=>h) (Or.inl ⟨by rfl,by (intro w hSw;(try dsimp only at hSw);go_simp<;>with_reducible rfl)⟩) (by assumption) ?_
    (try simp only [q1,q2,q3,Act.put,q4,q5,q6])
    refine wpAnyH_take (i:=15) (v:=_) rfl (by kernel_rfl) (by kernel_rfl) (by kernel_rfl) (fun _ _ _ h=>h) (Or.inl ⟨by rfl,by (intro w hSw;(try dsimp only at hSw);go_simp<;>with_reducible rfl)⟩) (by assumption) ?_
    (try simp only [q1,q2,q3,Act.put,q4,q5,q6])
    refine wpAnyH_take (i:=16) (v:=_) rfl (by kernel_rfl) (by kernel_rfl) (by kernel_rfl) (fun _ _ _ h=>h) (Or.inl ⟨by rfl,by (intro w hSw;(try dsimp only at hSw);go_simp<;>with_reducible rfl)⟩) (by assumption) ?_
    (try simp only [q1,q2,q3,Act.put,q4,q5,q6])
    refine wpAnyH_take (i:=17) (v:=_) rfl (by kernel_rfl) (by kernel_rfl) (by kernel_rfl) (fun _ _ _ h=>h) (Or.inl ⟨by rfl,by (intro w hSw;(try dsimp only at hSw);go_simp<;>with_reducible rfl)⟩) (by assumption) ?_
    (try simp only [q1,q2,q3,Act.put,q4,q5,q6])
    refine wpAnyH_take (i:=18) (v:=_) rfl (by kernel_rfl) (by kernel_rfl) (by kernel_rfl) (fun _ _ _ h=>h) (Or.inl ⟨by rfl,by (intro w hSw;(try dsimp only at hSw);go_simp<;>with_reducible rfl)⟩) (by assumption) ?_
    (try simp only [q1,q2,q3,Act.put,q4,q5,q6])
    refine wpAnyH_done (by kernel_rfl) ?_ _
    go_wp2_with fail
    go_ret
    exact⟨rfl,HBE.out⟩
end Go.Proofs.YtjacjafmimgfcaaGreat
