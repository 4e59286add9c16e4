/- What is done at once is what was read, and put: plain laws of logDo.; Both programs' LogDo, whole; the program's LogReplay.; FnLogDoNone: the walk of the law. -/
import Derived.Test.YtjacjafmimgfcaaGreatWag
import Derived.Test.YtjacjafmimgfcaaGreatWaz
import Derived.Test.YtjacjafmimgfcaaGreatWbt
import Derived.Test.YtjacjafmimgfcaaGreatWbv
set_option linter.unusedVariables false
set_option linter.unusedSimpArgs false
namespace Go.Proofs.YtjacjafmimgfcaaGreat
theorem logDo1_some {p:Prog}{s:Sys}{cr cr':List Int × List (List Int)}{e:Entry}(h:logDo1 p s cr e=some cr'):hasAll cr.1 e.reads=true∧cr'.1=putAll cr.1 e.puts∧cr'.2.length=cr.2.length:=by
 unfold logDo1 at h
 split at h
 ·cases h
 ·split at h
  ·cases h
  ·split at h
   ·rename_i hh
    injection h with h
    subst h
    simp only [Bool.and_eq_true,decide_eq_true_eq] at hh
    exact⟨hh.1,hh.2,by simp⟩
   ·cases h
theorem logDos_replay (p:Prog)(s:Sys):∀ (l:List Entry)(cr cr':List Int × List (List Int)),logDos p s cr l=some cr'→replay cr.1 l=some cr'.1∧cr'.2.length=cr.2.length:=by
 intro l
 induction l with
 | nil=>intro cr cr' h;injection h with h;subst h;exact⟨rfl,rfl⟩
 | cons e r ih =>
  intro cr cr' h
  unfold logDos at h
  split at h
  ·cases h
  ·rename_i x hx
   have h1:=logDo1_some hx
   have h2:=ih _ _ h
   unfold replay
   rw [if_pos h1.1,← h1.2.1]
   exact⟨h2.1,h2.2.trans h1.2.2⟩
theorem logDo_replay {p:Prog}{s:Sys}{l:List Entry}{c:List Int}{rs:List (List Int)}(h:logDo p s l=some (c,rs)):replay p.cells l=some c∧rs.length=s.tasks.length:=by
 unfold logDo at h
 split at h
 ·have:=logDos_replay p s l _ _ h
  exact⟨this.1,this.2.trans (by simp)⟩
 ·cases h
theorem logDo_nil {p:Prog}{s:Sys}(h:sysOk p s=true):logDo p s []=some (p.cells,List.replicate s.tasks.length [0,0,0]):=by
 unfold logDo;rw [if_pos h];rfl
end Go.Proofs.YtjacjafmimgfcaaGreat
namespace Go.Proofs.YtjacjafmimgfcaaGreat
open Go.RowKit
attribute [local go_sem ↓] Go.wp_at_zero Go.wp_at_succ
theorem specLogDo_calls (p:Prog)(s:Sys)(l:List Entry)(P Q A B C L:Option Addr)(cp cq ca cb cc cl:Nat)(w:World)(S:Nat→Prop)(hP:Row Kd.int w S P p.cells)(hQ:Row (Kd.slice kAct) w S Q p.bodies)(hS:SysR w S s A B C)(hL:Row kEntry w S L l)(hSS:∀ k,S k→k<w.heap.size)(hi:∀ e ∈ l,∀ x ∈ e.puts,isI x.num) :
  Calls Tryz.prog 10 #[.agg #[.slice P p.cells.length cp,.slice Q p.bodies.length cq],.agg #[.slice A s.cells.length ca,.slice B s.tasks.length cb,.int .i64 s.clock,.slice C s.log.length cc],.slice L l.length cl] w fun e w'=>ResLogDo (logDo p s l) w.heap.size e w'∧Below w.heap.size w w':=by
 cases hok:sysOk p s with
 | true=>exact specLogDo_good p s l P Q A B C L cp cq ca cb cc cl w S hP hQ hS hL hSS hi hok
 | false=>exact specLogDo_bad p s l P Q A B C L cp cq ca cb cc cl w S hP hQ hS hok
theorem implLogDo_calls (p:Prog)(s:Sys)(l:List Entry)(P Q A B C L:Option Addr)(cp cq ca cb cc cl:Nat)(w:World)(S:Nat→Prop)(hP:Row Kd.int w S P p.cells)(hQ:Row (Kd.slice kAct) w S Q p.bodies)(hS:SysR w S s A B C)(hL:Row kEntry w S L l)(hSS:∀ k,S k→k<w.heap.size)(hi:∀ e ∈ l,∀ x ∈ e.puts,isI x.num) :
  Calls Tryz.prog 14 #[.agg #[.slice P p.cells.length cp,.slice Q p.bodies.length cq],.agg #[.slice A s.cells.length ca,.slice B s.tasks.length cb,.int .i64 s.clock,.slice C s.log.length cc],.slice L l.length cl] w fun e w'=>ResLogDo (logDo p s l) w.heap.size e w'∧Below w.heap.size w w':=by
 cases hok:sysOk p s with
 | true=>exact implLogDo_good p s l P Q A B C L cp cq ca cb cc cl w S hP hQ hS hL hSS hi hok
 | false=>exact implLogDo_bad p s l P Q A B C L cp cq ca cb cc cl w S hP hQ hS hok
def lc (r:Option (List Int × List (List Int))):List Int:=match r with | none=>[] | some x=>x.1
def lr (r:Option (List Int × List (List Int))):List (List Int):=match r with | none=>[] | some x=>x.2
theorem resLogDo_open {r:Option (List Int × List (List Int))}{B:Nat}{e:Ending}{w':World}(h:ResLogDo r B e w'):∃ A1 c1 A2 c2,e=.returned (.tuple #[.slice A1 (lc r).length c1,.slice A2 (lr r).length c2,.bool r.isSome])∧Row Kd.int w' (fun k=>B≤k) A1 (lc r)∧Row (Kd.slice Kd.int) w' (fun k=>B≤k) A2 (lr r):=by
 match r,h with
 | none,h=>obtain⟨A1,A2,rfl⟩:=h;exact⟨A1,0,A2,0,rfl,⟨by simp [lc],fun h=>absurd rfl h⟩,⟨by simp [lr],fun h=>absurd rfl h⟩⟩
 | some (c,rs),h =>
  obtain⟨vc,vr,rfl,hc,hr⟩:=h
  obtain⟨A1,c1,rfl,_,h1⟩:=hc.row
  obtain⟨A2,c2,rfl,_,h2⟩:=Own.row hr
  exact⟨A1,c1,A2,c2,rfl,h1.mono fun k hk=>(hc.blk k hk).1,h2⟩
theorem resLogDo_none {B:Nat}{e:Ending}{w':World}(h:ResLogDo none B e w'):∃ A1 A2,e=.returned (.tuple #[.slice A1 0 0,.slice A2 0 0,.bool false])∧Row Kd.int w' (fun k=>B≤k) A1 []∧Row (Kd.slice Kd.int) w' (fun k=>B≤k) A2 []:=by
 obtain⟨A1,A2,rfl⟩:=h
 exact⟨A1,A2,rfl,⟨by simp,fun h=>absurd rfl h⟩,⟨by simp,fun h=>absurd rfl h⟩⟩
theorem resLogDo_some {c:List Int}{rs:List (List Int)}{B:Nat}{e:Ending}{w':World}(h:ResLogDo (some (c,rs)) B e w'):∃ A1 c1 A2 c2,e=.returned (.tuple #[.slice A1 c.length c1,.slice A2 rs.length c2,.bool true])∧Row Kd.int w' (fun k=>B≤k) A1 c∧Row (Kd.slice Kd.int) w' (fun k=>B≤k) A2 rs:=resLogDo_open h
theorem logDo_cells {p:Prog}{s:Sys}{l:List Entry}{x:List Int × List (List Int)}(h:logDo p s l=some x):p.cells.length≤1000:=by
 unfold logDo at h
 split at h
 ·rename_i hok;exact(sysOk_use hok).2.2.2.2.1
 ·cases h
theorem hasAll_n {n:Nat}(cells:List Int)(hn:cells.length=n)(l:List Put)(A B:Option Addr)(ca cb:Nat)(w:World)(S T:Nat→Prop)(hc:Row Kd.int w T A cells)(hr:Row kPut w S B l) :
  Calls Tryz.prog 49 #[.slice A n ca,.slice B l.length cb] w fun e w'=>e=.returned (.bool (hasAll cells l))∧Below w.heap.size w w':=by
 subst hn
 exact hasAll_calls cells l A B ca cb w S T hc hr
theorem putAllI_n {n:Nat}(cells:List Int)(hn:cells.length=n)(l:List Put)(A B:Option Addr)(ca cb base:Nat)(w:World)(S:Nat→Prop)(hO:OwnI 3 w base (.slice A n ca) cells)(hr:Row kPut w S B l)(hS:∀ k,S k→k<w.heap.size→Value.ownBlock (.slice A n ca)≠some k)(hi:∀ x ∈ l,isI x.num)(hcl:cells.length≤1000) :
  Calls Tryz.prog 65 #[.slice A n ca,.slice B l.length cb] w fun e w'=>e=.returned (.tuple #[])∧OwnI 3 w' base (.slice A n ca) (putAll cells l)∧Keep (fun k=>Value.ownBlock (.slice A n ca)=some k) w w':=by
 subst hn
 exact putAllI_calls cells l A B ca cb base w S hO hr hS hi hcl
theorem ownI_rowN {w:World}{B n c:Nat}{A:Option Addr}{xs:List Int}(h:OwnI 3 w B (.slice A n c) xs):n=xs.length∧Row Kd.int w (fun k=>(Value.slice A n c).ownBlock=some k) A xs:=by
 obtain⟨A',c',e,hc,hr⟩:=h.row
 injection e with e1 e2 e3
 subst e1;subst e2;subst e3
 exact⟨rfl,hr⟩
set_option maxHeartbeats 2000000 in
set_option maxRecDepth 100000 in
theorem implLogReplay_some (cells:List Int)(l:List Entry)(C L:Option Addr)(cc cl:Nat)(c9:List Int)(w:World)(S:Nat→Prop)(hC:Row Kd.int w S C cells)(hL:Row kEntry w S L l)(hSS:∀ k,S k→k<w.heap.size)(hi:∀ e ∈ l,∀ x ∈ e.puts,isI x.num)(hcl:cells.length≤1000)(hrep:replay cells l=some c9) :
  Calls Tryz.prog 29 #[.slice C cells.length cc,.slice L l.length cl] w fun e w'=>∃ A1 c1,e=.returned (.tuple #[.slice A1 c9.length c1,.bool true])∧Row Kd.int w' (fun k=>w.heap.size≤k) A1 c9∧Below w.heap.size w w':=by
 have HL:=Lib.hid hL
 have HC:=Lib.hid hC
 have HI:=Lib.hid hi
 have HREP:=Lib.hid hrep
 have hlm:=hL.1
 clear hL hC hi hrep
 go_enter Tryz.func29,Tryz.ntmps29
 go_wp2_with (go_at_call 47;go_must (refine(cloneInt_calls cells C cc w S HC.out (by omega)).mono ?_;rintro e w1 ⟨v1,rfl,ho1,hb1⟩;have HO1:=Lib.hid ho1;have HB1:=Lib.hid hb1;obtain⟨A1,c1,rfl,_⟩:=ho1.row;clear hb1))
 go_loopw [8,13] (fun x8 i wr=>∃ (n:Nat) (c:List Int),n≤l.length∧i=.int .i64 n∧replay cells (l.take n)=some c∧c.length=cells.length∧OwnI 3 wr w.heap.size (.slice A1 cells.length c1) c∧Below w.heap.size w wr) (fun x8 i _=>l.length-(intOf i).toNat)
 case atStart=>exact⟨0,cells,Nat.zero_le _,rfl,rfl,rfl,HO1.out,HB1.out⟩
 case round =>
  clear HO1 HB1
  obtain⟨n,c,hnl,rfl,hrp,hcc,hO,hb⟩:=hrel
  have hz:=hb.size
  by_cases hlt:n<l.length
  ·have hlt':(n:Int)<l.length:=by omega
   have hn0:(0:Int)≤n:=by omega
   obtain⟨be,oe,Ad,Au,cd,cu,eL,hbe,hSe,hrow,hat⟩:=litEntry (HL.out.belowAll hb) hlt
   subst eL
   have e0:=hat.c0
   have e1:=hat.c1
   have e2:=hat.c2
   have e3:=hat.c3
   have e4:=hat.c4
   have e5:=hat.c5
   dsimp only at e1 e2 e3 e4 e5
   obtain⟨E,hE⟩:∃ E,E=l[n]:=⟨_,rfl⟩
   rw [← hE] at e0 e1 e2 e3 e4 e5 hrow
   have hput:∀ x ∈ E.puts,isI x.num:=by rw [hE];exact HI.out _ (List.getElem_mem hlt)
   have hnx:hasAll c E.reads=true∧replay cells (l.take (n+1))=some (putAll c E.puts):=by
    have h1:=replay_snoc l cells n hlt
    rw [hrp] at h1
    simp only [Option.bind_some,← hE] at h1
    cases hh:hasAll c E.reads with
    | true=>rw [hh,if_pos rfl] at h1;exact⟨rfl,h1⟩
    | false =>
     rw [hh,if_neg (by decide)] at h1
     have:=replay_none l cells (n+1) h1
     rw [HREP.out] at this
     cases this
   have HNX:=Lib.hid hnx
   have HPUT:=Lib.hid hput
   have HROW:=Lib.hid hrow
   have HE:=Lib.hid hE
   have HO:=Lib.hid hO
   have HB:=Lib.hid hb
   have HCC:=Lib.hid hcc
   have hfar:Hid (∀ k,S k→(Value.slice A1 cells.length c1).ownBlock≠some k):=Lib.hid fun k hk e=>by have h1:=(hO.blk k e).1;have:=hSS k hk;omega
   clear hnx hput hat hE hrow hO hb hcc hrp
   obtain⟨X,hX⟩:∃ X,X=wr.alloc (.cells #[.int .i64 E.task,.int .i64 E.act,.int .i64 E.whn,.slice Ad E.reads.length cd,.slice Au E.puts.length cu,.int .i64 E.frm] 68):=⟨_,rfl⟩
   have hbX:Below wr.heap.size wr X:=by rw [hX];exact alB wr _
   have hzX:X.heap.size=wr.heap.size+1:=by rw [hX];simp
   have hq:=heap_alloc_new wr (.cells #[.int .i64 E.task,.int .i64 E.act,.int .i64 E.whn,.slice Ad E.reads.length cd,.slice Au E.puts.length cu,.int .i64 E.frm] 68 (0,0))
   rw [← hX] at hq
   have HX:=Lib.hid (And.intro hX (And.intro hbX hq))
   clear hX hbX hq
   go_wp2_with (first | (go_at_call 49;go_must (rw [← HX.out.1];refine(hasAll_n c HCC.out E.reads A1 Ad c1 cd X S _ ((ownI_rowN HO.out).2.belowAll HX.out.2.1) (HROW.out.d.belowAll HX.out.2.1)).mono ?_;rintro e w5 ⟨rfl,hb5⟩;rw [HNX.out.1];have hz5:=hb5.size;have q5:=(hb5.block wr.heap.size (by omega)).trans HX.out.2.2;have i4:=cell_of_row _ _ 4 _ _ _ q5;simp at i4;have HB5:=Lib.hid (belowTwo HX.out.2.1 (by omega) (Nat.le_refl _) hb5);clear hb5 q5)) | (go_at_call 65;go_must (refine(putAllI_n c HCC.out E.puts A1 Au c1 cu w.heap.size w5 S (HO.out.belowAll HB5.out) (HROW.out.u.belowAll HB5.out) (fun k hk _=>hfar.out k hk) HPUT.out (by rw [HCC.out];exact hcl)).mono ?_;rintro e w6 ⟨rfl,ho6,hk6⟩;have hz6:=hk6.size;have HO6:=Lib.hid ho6;have HK6:=Lib.hid hk6;clear ho6 hk6)))
   have hb6:Below w.heap.size w w6:=belowTwo (belowTwo HB.out hz (Nat.le_refl _) HB5.out) (Nat.le_refl _) (Nat.le_refl _) (HK6.out.below (B:=w.heap.size) (fun k h e=>by have:=(HO.out.blk k e).1;omega) (by omega))
   exact⟨⟨n+1,putAll c E.puts,by omega,by go_num,HNX.out.2,by rw [putAll_len];exact HCC.out,HO6.out,hb6⟩,by simp [intOf];omega⟩
  ·obtain rfl:n=l.length:=by omega
   rw [List.take_length,HREP.out] at hrp
   injection hrp with hrp
   subst hrp
   have HH:=Lib.hid (And.intro hO (And.intro hb hcc))
   have hlt':¬ ((l.length:Int)<l.length):=by omega
   clear hO hb hcc
   go_wp2
   go_ret2
   exact⟨A1,⟨c1,by rw [HH.out.2.2];rfl⟩,(ownI_rowN HH.out.1).2.mono fun k hk=>(HH.out.1.blk k hk).1,HH.out.2.1⟩
end Go.Proofs.YtjacjafmimgfcaaGreat
namespace Go.Proofs.YtjacjafmimgfcaaGreat
open Go.RowKit
attribute [local go_sem ↓] Go.wp_at_zero Go.wp_at_succ
theorem row_zero3 (w:World):Row Kd.int (w.alloc (.cells #[.int .i64 0,.int .i64 0,.int .i64 0] 3)) (fun k=>w.heap.size≤k) (some ⟨w.heap.size,0,none⟩) [0,0,0]:=by
 obtain⟨A9,c9,e9,_,h9⟩:=(ownI_zeros' w w.heap.size (Nat.le_refl _)).row
 injection e9 with e9 _ _
 subst e9
 exact h9.mono fun k hk=>((ownI_zeros' w w.heap.size (Nat.le_refl _)).blk k hk).1
set_option maxHeartbeats 8000000 in
set_option maxRecDepth 100000 in
theorem fnLogDoNone_calls (xs:List Int)(A:Option Addr)(c:Nat)(w:World)(S:Nat→Prop)(hr:Row Kd.byte w S A xs)(hS:∀ k,S k→k<w.heap.size)(hc:xs.length≤c) :
  Calls Tryz.prog 5 #[.slice A xs.length c] w fun e w'=>e=.returned (.bool true)∧Below w.heap.size w w':=by
 by_cases hbig:1048576<xs.length
 ·have hb:(1048576:Int)<xs.length:=by omega
  go_enter Tryz.func5,Tryz.ntmps5
  go_wp2
  go_ret
  exact⟨rfl,Below.refl _ _⟩
 ·have hb:¬ (1048576:Int)<xs.length:=by omega
  have tok1:True:=trivial
  have tok2:True:=trivial
  go_enter Tryz.func5,Tryz.ntmps5
  go_wp2_with (first | (go_at_call 27;go_must (refine(drawLogDo_calls xs A c _ S hr hS hc).mono ?_;rintro e w1 ⟨_,rfl,⟨p,s,l,P,Q,A2,B2,C2,L,cp,cq,ca,cb,cc,cl,rfl,hP,hQ,hSy,hL,hfew⟩,hb1⟩;have HD:=Lib.hid (And.intro hP (And.intro hQ (And.intro hSy (And.intro hL hfew))));have HB1:=Lib.hid hb1;have hz1:=hb1.size;clear hP hQ hSy hL hfew hb1)) | (go_at_call 10;fail))
  obtain⟨X,hX⟩:∃ X,X=(w1.alloc (.cells #[.slice P p.cells.length cp,.slice Q p.bodies.length cq] 39)).alloc (.cells #[.slice A2 s.cells.length ca,.slice B2 s.tasks.length cb,.int .i64 s.clock,.slice C2 s.log.length cc] 45):=⟨_,rfl⟩
  have hzX:X.heap.size=w1.heap.size+1+1:=by rw [hX];simp
  have HX:=Lib.hid (show _∧Below w1.heap.size w1 X∧X.heap[w1.heap.size]?=some (.cells #[.slice P p.cells.length cp,.slice Q p.bodies.length cq] 39 (0,0))∧X.heap[w1.heap.size+1]?=some (.cells #[.slice A2 s.cells.length ca,.slice B2 s.tasks.length cb,.int .i64 s.clock,.slice C2 s.log.length cc] 45 (0,0)) from ⟨hX,by rw [hX];exact alB2 w1 _ _,by rw [hX];exact two_first _ _ _,by rw [hX];exact two_second _ _ _⟩)
  clear hX hr hS hc
  cases hok:sysOk p s with
  | false =>
   have HOK:=Lib.hid hok
   clear hok
   go_wp2_with (first
    | (go_at_call 10;go_must (rw [← HX.out.1];refine(specLogDo_calls p s l P Q A2 B2 C2 L cp cq ca cb cc cl X (fun k=>w.heap.size≤k∧k<w1.heap.size) (HD.out.1.belowAll HX.out.2.1) (HD.out.2.1.belowAll HX.out.2.1) (HD.out.2.2.1.below HX.out.2.1) (HD.out.2.2.2.1.belowAll HX.out.2.1) (fun k hk=>by have:=hk.2;omega) HD.out.2.2.2.2.isI).mono ?_;rintro e w2 ⟨hres,hb2⟩;obtain⟨A5,c5,A6,c6,rfl,h5,h6⟩:=resLogDo_open hres;have hz2:=hb2.size;have x0:=(hb2.block w1.heap.size (by omega)).trans HX.out.2.2.1;have x1:=(hb2.block (w1.heap.size+1) (by omega)).trans HX.out.2.2.2;have p0:=cell_of_row _ _ 0 _ _ _ x0;have p1:=cell_of_row _ _ 1 _ _ _ x0;have s0:=cell_of_row _ _ 0 _ _ _ x1;have s1:=cell_of_row _ _ 1 _ _ _ x1;have s2:=cell_of_row _ _ 2 _ _ _ x1;have s3:=cell_of_row _ _ 3 _ _ _ x1;simp at p0 p1 s0 s1 s2 s3;have HX2:=Lib.hid (And.intro x0 x1);have HB2:=Lib.hid (belowTwo HX.out.2.1 (by omega) (Nat.le_refl _) hb2);have HS5:=Lib.hid (And.intro h5 h6);clear x0 x1 hb2 h5 h6 hres)) | (go_at_call 14;go_must (refine(implLogDo_calls p s l P Q A2 B2 C2 L cp cq ca cb cc cl w2 (fun k=>w.heap.size≤k∧k<w1.heap.size) (HD.out.1.belowAll HB2.out) (HD.out.2.1.belowAll HB2.out) (HD.out.2.2.1.below HB2.out) (HD.out.2.2.2.1.belowAll HB2.out) (fun k hk=>by have:=hk.2;omega) HD.out.2.2.2.2.isI).mono ?_;rintro e w3 ⟨hres,hb3⟩;obtain⟨A7,c7,A8,c8,rfl,h7,h8⟩:=resLogDo_open hres;have hz3:=hb3.size;clear p0 p1 s0 s1 s2 s3;have x0:=(hb3.block w1.heap.size (by omega)).trans HX2.out.1;have x1:=(hb3.block (w1.heap.size+1) (by omega)).trans HX2.out.2;have p0:=cell_of_row _ _ 0 _ _ _ x0;have p1:=cell_of_row _ _ 1 _ _ _ x0;have s0:=cell_of_row _ _ 0 _ _ _ x1;have s1:=cell_of_row _ _ 1 _ _ _ x1;have s2:=cell_of_row _ _ 2 _ _ _ x1;have s3:=cell_of_row _ _ 3 _ _ _ x1;simp at p0 p1 s0 s1 s2 s3;have HX3:=Lib.hid (And.intro x0 x1);have HB3:=Lib.hid (belowTwo HB2.out (by omega) (Nat.le_refl _) hb3);have HS7:=Lib.hid (And.intro (And.intro h7 h8) (And.intro (HS5.out.1.belowAll hb3) (HS5.out.2.belowAll hb3)));clear x0 x1 hb3 h7 h8 hres)) | (go_at_call 28;have _t:=tok1;go_must (refine(lqInts_calls (lc (logDo p s l)) (lc (logDo p s l)) A7 A5 c7 c5 w3 _ _ HS7.out.1.1 HS7.out.2.1).mono ?_;rintro e w4 ⟨rfl,hbw4⟩;rw [show decide ((lc (logDo p s l))=(lc (logDo p s l)))=true from decide_eq_true rfl];have hz4:=hbw4.size;clear p0 p1 s0 s1 s2 s3;have x0:=(hbw4.block w1.heap.size (by omega)).trans HX3.out.1;have x1:=(hbw4.block (w1.heap.size+1) (by omega)).trans HX3.out.2;have p0:=cell_of_row _ _ 0 _ _ _ x0;have p1:=cell_of_row _ _ 1 _ _ _ x0;have s0:=cell_of_row _ _ 0 _ _ _ x1;have s1:=cell_of_row _ _ 1 _ _ _ x1;have s2:=cell_of_row _ _ 2 _ _ _ x1;have s3:=cell_of_row _ _ 3 _ _ _ x1;simp at p0 p1 s0 s1 s2 s3;have HX4:=Lib.hid (And.intro x0 x1);have HB4:=Lib.hid (belowTwo HB3.out (by omega) (Nat.le_refl _) hbw4);have HS4:=Lib.hid (And.intro (HS7.out.1.1.belowAll hbw4) (HS7.out.2.1.belowAll hbw4));clear hbw4 x0 x1;clear tok1)) | (go_at_call 30;go_must (refine(specSysOk_calls p s P Q A2 B2 C2 cp cq ca cb cc w4 (fun k=>w.heap.size≤k∧k<w1.heap.size) (HD.out.1.belowAll HB4.out) (HD.out.2.1.belowAll HB4.out) (HD.out.2.2.1.below HB4.out)).mono ?_;rintro e w5 ⟨rfl,hb5⟩;rw [HOK.out];have hz5:=hb5.size;clear p0 p1 s0 s1 s2 s3;have x0:=(hb5.block w1.heap.size (by omega)).trans HX4.out.1;have x1:=(hb5.block (w1.heap.size+1) (by omega)).trans HX4.out.2;have p0:=cell_of_row _ _ 0 _ _ _ x0;have p1:=cell_of_row _ _ 1 _ _ _ x0;have s0:=cell_of_row _ _ 0 _ _ _ x1;have s1:=cell_of_row _ _ 1 _ _ _ x1;have s2:=cell_of_row _ _ 2 _ _ _ x1;have s3:=cell_of_row _ _ 3 _ _ _ x1;simp at p0 p1 s0 s1 s2 s3;have HX5:=Lib.hid (And.intro x0 x1);have HB5:=Lib.hid (belowTwo HB4.out (by omega) (Nat.le_refl _) hb5);have HS5a:=Lib.hid (And.intro (HS4.out.1.belowAll hb5) (HS4.out.2.belowAll hb5));clear hb5 x0 x1)) | (go_at_call 28;have _t:=tok2;go_must (refine(lqInts_calls (lc (logDo p s l)) (lc (logDo p s l)) A7 A5 c7 c5 w5 _ _ HS5a.out.1 HS5a.out.2).mono ?_;rintro e w6 ⟨rfl,hbw6⟩;rw [show decide ((lc (logDo p s l))=(lc (logDo p s l)))=true from decide_eq_true rfl];have HBE:=Lib.hid (belowTwo HB1.out hz1 (Nat.le_refl _) (belowTwo HB5.out (by omega) (Nat.le_refl _) hbw6));clear hbw6;clear tok2)))
   go_ret
   exact⟨rfl,HBE.out⟩
  | true =>
   have HOK:=Lib.hid hok
   have HNIL:=Lib.hid (logDo_nil hok)
   have HTL:=Lib.hid (sysOk_use hok)
   have tok3:True:=trivial
   clear hok
   go_wp2_with (first
    | (go_at_call 10;go_must (rw [← HX.out.1];refine(specLogDo_calls p s l P Q A2 B2 C2 L cp cq ca cb cc cl X (fun k=>w.heap.size≤k∧k<w1.heap.size) (HD.out.1.belowAll HX.out.2.1) (HD.out.2.1.belowAll HX.out.2.1) (HD.out.2.2.1.below HX.out.2.1) (HD.out.2.2.2.1.belowAll HX.out.2.1) (fun k hk=>by have:=hk.2;omega) HD.out.2.2.2.2.isI).mono ?_;rintro e w2 ⟨hres,hb2⟩;obtain⟨A5,c5,A6,c6,rfl,h5,h6⟩:=resLogDo_open hres;have hz2:=hb2.size;have x0:=(hb2.block w1.heap.size (by omega)).trans HX.out.2.2.1;have x1:=(hb2.block (w1.heap.size+1) (by omega)).trans HX.out.2.2.2;have p0:=cell_of_row _ _ 0 _ _ _ x0;have p1:=cell_of_row _ _ 1 _ _ _ x0;have s0:=cell_of_row _ _ 0 _ _ _ x1;have s1:=cell_of_row _ _ 1 _ _ _ x1;have s2:=cell_of_row _ _ 2 _ _ _ x1;have s3:=cell_of_row _ _ 3 _ _ _ x1;simp at p0 p1 s0 s1 s2 s3;have HX2:=Lib.hid (And.intro x0 x1);have HB2:=Lib.hid (belowTwo HX.out.2.1 (by omega) (Nat.le_refl _) hb2);have HS5:=Lib.hid (And.intro h5 h6);clear x0 x1 hb2 h5 h6 hres)) | (go_at_call 14;have _t:=tok2;go_must (refine(implLogDo_calls p s l P Q A2 B2 C2 L cp cq ca cb cc cl w2 (fun k=>w.heap.size≤k∧k<w1.heap.size) (HD.out.1.belowAll HB2.out) (HD.out.2.1.belowAll HB2.out) (HD.out.2.2.1.below HB2.out) (HD.out.2.2.2.1.belowAll HB2.out) (fun k hk=>by have:=hk.2;omega) HD.out.2.2.2.2.isI).mono ?_;rintro e w3 ⟨hres,hb3⟩;obtain⟨A7,c7,A8,c8,rfl,h7,h8⟩:=resLogDo_open hres;have hz3:=hb3.size;clear p0 p1 s0 s1 s2 s3;have x0:=(hb3.block w1.heap.size (by omega)).trans HX2.out.1;have x1:=(hb3.block (w1.heap.size+1) (by omega)).trans HX2.out.2;have p0:=cell_of_row _ _ 0 _ _ _ x0;have p1:=cell_of_row _ _ 1 _ _ _ x0;have s0:=cell_of_row _ _ 0 _ _ _ x1;have s1:=cell_of_row _ _ 1 _ _ _ x1;have s2:=cell_of_row _ _ 2 _ _ _ x1;have s3:=cell_of_row _ _ 3 _ _ _ x1;simp at p0 p1 s0 s1 s2 s3;have HX3:=Lib.hid (And.intro x0 x1);have HB3:=Lib.hid (belowTwo HB2.out (by omega) (Nat.le_refl _) hb3);have HS7:=Lib.hid (And.intro (And.intro h7 h8) (And.intro (HS5.out.1.belowAll hb3) (HS5.out.2.belowAll hb3)));clear x0 x1 hb3 h7 h8 hres tok2)) | (go_at_call 28;have _t:=tok1;go_must (refine(lqInts_calls (lc (logDo p s l)) (lc (logDo p s l)) A7 A5 c7 c5 w3 _ _ HS7.out.1.1 HS7.out.2.1).mono ?_;rintro e w4 ⟨rfl,hbw4⟩;rw [show decide ((lc (logDo p s l))=(lc (logDo p s l)))=true from decide_eq_true rfl];have hz4:=hbw4.size;clear p0 p1 s0 s1 s2 s3;have x0:=(hbw4.block w1.heap.size (by omega)).trans HX3.out.1;have x1:=(hbw4.block (w1.heap.size+1) (by omega)).trans HX3.out.2;have p0:=cell_of_row _ _ 0 _ _ _ x0;have p1:=cell_of_row _ _ 1 _ _ _ x0;have s0:=cell_of_row _ _ 0 _ _ _ x1;have s1:=cell_of_row _ _ 1 _ _ _ x1;have s2:=cell_of_row _ _ 2 _ _ _ x1;have s3:=cell_of_row _ _ 3 _ _ _ x1;simp at p0 p1 s0 s1 s2 s3;have HX4:=Lib.hid (And.intro x0 x1);have HB4:=Lib.hid (belowTwo HB3.out (by omega) (Nat.le_refl _) hbw4);have HS4:=Lib.hid (And.intro (HS7.out.1.1.belowAll hbw4) (HS7.out.2.1.belowAll hbw4));clear hbw4 x0 x1;clear tok1)) | (go_at_call 30;go_must (refine(specSysOk_calls p s P Q A2 B2 C2 cp cq ca cb cc w4 (fun k=>w.heap.size≤k∧k<w1.heap.size) (HD.out.1.belowAll HB4.out) (HD.out.2.1.belowAll HB4.out) (HD.out.2.2.1.below HB4.out)).mono ?_;rintro e w5 ⟨rfl,hb5⟩;rw [HOK.out];have hz5:=hb5.size;clear p0 p1 s0 s1 s2 s3;have x0:=(hb5.block w1.heap.size (by omega)).trans HX4.out.1;have x1:=(hb5.block (w1.heap.size+1) (by omega)).trans HX4.out.2;have p0:=cell_of_row _ _ 0 _ _ _ x0;have p1:=cell_of_row _ _ 1 _ _ _ x0;have s0:=cell_of_row _ _ 0 _ _ _ x1;have s1:=cell_of_row _ _ 1 _ _ _ x1;have s2:=cell_of_row _ _ 2 _ _ _ x1;have s3:=cell_of_row _ _ 3 _ _ _ x1;simp at p0 p1 s0 s1 s2 s3;have HX5:=Lib.hid (And.intro x0 x1);have HB5:=Lib.hid (belowTwo HB4.out (by omega) (Nat.le_refl _) hb5);have HS5a:=Lib.hid (And.intro (HS4.out.1.belowAll hb5) (HS4.out.2.belowAll hb5));clear hb5 x0 x1)) | (go_at_call 14;have _t:=tok3;go_must (refine(implLogDo_calls p s [] P Q A2 B2 C2 none cp cq ca cb cc 0 w5 (fun k=>w.heap.size≤k∧k<w1.heap.size) (HD.out.1.belowAll HB5.out) (HD.out.2.1.belowAll HB5.out) (HD.out.2.2.1.below HB5.out) ⟨by simp,fun h=>absurd rfl h⟩ (fun k hk=>by have:=hk.2;omega) (fun e he=>by cases he)).mono ?_;rintro e w6 ⟨hres,hb6⟩;rw [HNIL.out] at hres;obtain⟨A9,c9,A10,c10,rfl,h9,h10⟩:=resLogDo_some hres;have hz6:=hb6.size;clear p0 p1 s0 s1 s2 s3;have x0:=(hb6.block w1.heap.size (by omega)).trans HX5.out.1;have x1:=(hb6.block (w1.heap.size+1) (by omega)).trans HX5.out.2;have p0:=cell_of_row _ _ 0 _ _ _ x0;have p1:=cell_of_row _ _ 1 _ _ _ x0;have s0:=cell_of_row _ _ 0 _ _ _ x1;have s1:=cell_of_row _ _ 1 _ _ _ x1;have s2:=cell_of_row _ _ 2 _ _ _ x1;have s3:=cell_of_row _ _ 3 _ _ _ x1;simp at p0 p1 s0 s1 s2 s3;have HX6:=Lib.hid (And.intro x0 x1);have HB6:=Lib.hid (belowTwo HB5.out (by omega) (Nat.le_refl _) hb6);have HS9:=Lib.hid (And.intro h9 h10);clear hb6 x0 x1 h9 h10 hres tok3)))
   obtain⟨rs,hrs⟩:∃ rs,rs=List.replicate s.tasks.length [(0:Int),0,0]:=⟨_,rfl⟩
   have hrl:rs.length=s.tasks.length:=by rw [hrs];simp
   have HRS:=Lib.hid (show ∀ j (h:j<rs.length),rs[j]=[0,0,0] from fun j h=>by subst hrs;simp)
   have HROW:=Lib.hid (show Row (Kd.slice Kd.int) w6 (fun k=>w5.heap.size≤k) A10 rs by rw [hrs];exact HS9.out.2)
   have HRL:=Lib.hid hrl
   clear hrl hrs
   clear p0 p1 s0 s1 s2 s3
   go_loopw [15] (fun i wr=>∃ n:Nat,n≤s.tasks.length∧i=.int .i64 n∧Below w6.heap.size w6 wr) (fun i _=>s.tasks.length-(intOf i).toNat)
   case atStart=>exact⟨0,Nat.zero_le _,rfl,Below.refl _ _⟩
   case round =>
    obtain⟨n,hnl,rfl,hbr⟩:=hrel
    have hzr:=hbr.size
    have hn7:s.tasks.length≤7:=HTL.out.2.2.1
    by_cases hlt:n<s.tasks.length
    ·have hlt':(n:Int)<s.tasks.length:=by omega
     have hn0:(0:Int)≤n:=by omega
     have hlr:n<rs.length:=by rw [HRL.out];exact hlt
     obtain⟨ae,E,ce,eA,hle,hce,hcel,hE⟩:=at_slice (HROW.out.belowAll hbr) hlr
     subst eA
     rw [HRS.out n hlr] at hce hE
     have hlb:(ae.add n).block<wr.heap.size:=by rw [block_add];exact hle
     simp only [List.length_cons,List.length_nil] at hce
     have hzz:=row_zero3 wr
     have HB:=Lib.hid hbr
     have HE:=Lib.hid hE
     have HZ:=Lib.hid hzz
     clear hE hzz hbr
     go_wp2_with (go_at_call 28;go_must (refine(lqInts_calls [0,0,0] [0,0,0] E (some ⟨wr.heap.size,0,none⟩) ce 3 _ _ _ (HE.out.belowAll (alB wr _)) HZ.out).mono ?_;rintro e w7 ⟨rfl,hb7⟩;rw [show decide (([0,0,0]:List Int)=[0,0,0])=true from rfl];have HB7:=Lib.hid (belowTwo (HB.out.alloc HB.out.size _) (by simp;omega) (Nat.le_refl _) hb7);clear hb7))
     exact⟨⟨n+1,by omega,by go_num,HB7.out⟩,by simp [intOf];omega⟩
    ·obtain rfl:n=s.tasks.length:=by omega
     have hlt':¬ ((s.tasks.length:Int)<s.tasks.length):=by omega
     have x0:=(hbr.block w1.heap.size (by omega)).trans HX6.out.1
     have x1:=(hbr.block (w1.heap.size+1) (by omega)).trans HX6.out.2
     have p0:=cell_of_row _ _ 0 _ _ _ x0
     have s1:=cell_of_row _ _ 1 _ _ _ x1
     simp at p0 s1
     have HX7:=Lib.hid x1
     have HB7:=Lib.hid (belowTwo HB6.out (by omega) (Nat.le_refl _) hbr)
     have HS7b:=Lib.hid (HS9.out.1.belowAll hbr)
     clear x0 x1 hbr
     go_wp2_with (go_at_call 28;go_must (refine(lqInts_calls p.cells p.cells A9 P c9 cp wr _ _ HS7b.out (HD.out.1.belowAll HB7.out)).mono ?_;rintro e w8 ⟨rfl,hb8⟩;rw [show decide (p.cells=p.cells)=true from decide_eq_true rfl];clear s1;have x1:=(hb8.block (w1.heap.size+1) (by omega)).trans HX7.out;have s1:=cell_of_row _ _ 1 _ _ _ x1;simp at s1;have HBE:=Lib.hid (belowTwo HB1.out hz1 (Nat.le_refl _) (belowTwo HB7.out (by omega) (Nat.le_refl _) hb8));clear hb8 x1))
     go_ret
     exact⟨rfl,HBE.out⟩
end Go.Proofs.YtjacjafmimgfcaaGreat
