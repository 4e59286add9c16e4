/- How many changes are ended while tasks are called off: no more than tasks still go on. Plain Lean.; The reference's machine: tasks are called off.; The reference's machine: a task that waits goes on, or fails.; The reference's machine: a step of a task. -/
import Derived.Test.YtjacjafmimgfcaaGreatWaq
import Derived.Test.YtjacjafmimgfcaaGreatWay
import Derived.Test.YtjacjafmimgfcaaGreatWba
set_option maxHeartbeats 4000000
set_option maxRecDepth 100000
set_option linter.unusedVariables false
set_option linter.unusedSimpArgs false
namespace Go.Proofs.YtjacjafmimgfcaaGreat
def liveN (s:Sys):Nat:=((List.range s.tasks.length).filter fun i=>isLive (s.t i)).length
def mass (s:Sys):Nat:=s.log.length+liveN s
theorem liveN_le (s:Sys):liveN s≤s.tasks.length:=by
 unfold liveN
 have:=List.length_filter_le (fun i=>isLive (s.t i)) (List.range s.tasks.length)
 simpa using this
theorem filter_one (p q:Nat→Bool)(k:Nat):∀ n,k<n→p k=true→q k=false→(∀ i,i≠k→q i=p i)→((List.range n).filter q).length+1=((List.range n).filter p).length:=by
 intro n
 induction n with
 | zero=>intro h;omega
 | succ n ih =>
  intro h hp hq he
  rw [List.range_succ,List.filter_append,List.filter_append,List.length_append,List.length_append]
  by_cases hk:k=n
  ·subst hk
   have h1:(List.range k).filter q=(List.range k).filter p:=List.filter_congr fun i hi=>he i (by have:=List.mem_range.1 hi;omega)
   rw [h1]
   simp [hp,hq]
  ·have:=ih (by omega) hp hq he
   have h2:[n].filter q=[n].filter p:=List.filter_congr fun i hi=>he i (by rw [List.mem_singleton] at hi;omega)
   rw [h2]
   omega
section
variable {p:Prog}{s:Sys}{k:Nat}
theorem write_log (hI:SInv p s)(hk:k<s.tasks.length)(hst:(s.t k).stage=5):(writeS s k).log.length=s.log.length+1∧((writeS s k).t k).stage=0∨(writeS s k).log.length=s.log.length:=by
 unfold writeS
 dsimp only
 split
 ·left
  rw [endS_mk _ _ _ hk,t_set hk,if_pos rfl]
  simp
 ·right;rfl
theorem writeAll_zero (n:Nat)(h:(s.t k).stage≠5):writeAll n s k=s:=by
 cases n with
 | zero=>rfl
 | succ n=>unfold writeAll;rw [if_neg h]
theorem writeAll_log:∀ (n:Nat)(s:Sys),SInv p s→k<s.tasks.length→(writeAll n s k).log.length≤s.log.length+1:=by
 intro n
 induction n with
 | zero=>intro s _ _;unfold writeAll;omega
 | succ n ih =>
  intro s hI hk
  unfold writeAll
  split
  ·rename_i e
   have hf:=Fr.write (s:=s) hk
   rcases write_log hI hk e with ⟨h1,h2⟩ | h1
   ·rw [writeAll_zero n (by rw [h2];decide)];omega
   ·have:=ih (writeS s k) (hI.write hk e) (by rw [hf.n];exact hk);omega
  ·omega
theorem offSelf_mass (hI:SInv p s)(hk:k<s.tasks.length):mass (offSelf s k)≤mass s:=by
 by_cases hl:isLive (s.t k)=true
 ·have hlog:=writeAll_log (p:=p) (k:=k) 4 s hI hk
  obtain⟨w1,w2,w3,w4⟩:=writeAll_ok (p:=p) (k:=k) 4 s hI hk (fun e=>by have:=puts_few hI hk;have:=(hI.t k hk).s5 e;omega)
  have hk1:k<(writeAll 4 s k).tasks.length:=by rw [w2.n];exact hk
  have key:∀ s2:Sys,Fr k s s2→s2.log.length≤s.log.length+1→mass (setWay s2 k 4)≤mass s:=by
   intro s2 hf hlg
   have hk2:k<s2.tasks.length:=by rw [hf.n];exact hk
   have hT:=way_t (s:=s2) hk2 4
   have hn:(setWay s2 k 4).tasks.length=s.tasks.length:=by rw [show (setWay s2 k 4).tasks.length=s2.tasks.length from List.length_set];exact hf.n
   have h1:=filter_one (fun i=>isLive (s.t i)) (fun i=>isLive ((setWay s2 k 4).t i)) k s.tasks.length hk hl (by show isLive ((setWay s2 k 4).t k)=false;rw [hT,if_pos rfl];rfl) (fun i hi=>by
    show isLive ((setWay s2 k 4).t i)=isLive (s.t i)
    rw [hT,if_neg hi,hf.out i hi])
   unfold mass liveN
   rw [hn]
   have h2:(setWay s2 k 4).log=s2.log:=rfl
   rw [h2]
   omega
  unfold offSelf
  rw [if_pos hl]
  dsimp only
  split
  ·exact key _ w2 hlog
  ·exact key _ (w2.trans (Fr.again hk1)) hlog
 ·unfold offSelf
  rw [if_neg hl]
  exact Nat.le_refl _
theorem offS_mass:∀ (n:Nat)(s:Sys)(k:Nat),SInv p s→k<s.tasks.length→s.tasks.length-k≤n→mass (offS n s k)≤mass s:=by
 intro n
 induction n with
 | zero=>intro s k _ hk h;omega
 | succ n ih =>
  intro s k hI hk hn
  unfold offS
  have key:∀ (l:List Nat) (s':Sys),SInv p s'→s'.tasks.length=s.tasks.length→(∀ c ∈ l,c<s'.tasks.length∧k<c)→mass (l.foldl (offS n) s')≤mass s'∧SInv p (l.foldl (offS n) s')∧(l.foldl (offS n) s').tasks.length=s.tasks.length:=by
   intro l
   induction l with
   | nil=>intro s' hI' hl _;exact⟨Nat.le_refl _,hI',hl⟩
   | cons c r ihl =>
    intro s' hI' hlen hl
    have hc:=hl c (List.mem_cons_self ..)
    have h0:=ih s' c hI' hc.1 (by omega)
    have h1:=(offS_ok n s' c hI' hc.1 (by omega)).1
    rw [List.foldl_cons]
    have:=ihl (offS n s' c) h1.inv (h1.n.trans hlen) (fun d hd=>by rw [h1.n];exact hl d (List.mem_cons_of_mem _ hd))
    exact⟨Nat.le_trans this.1 h0,this.2⟩
  obtain⟨h1,h2,h3⟩:=key (kidList s k) s hI rfl (kids_after hI hk)
  exact Nat.le_trans (offSelf_mass h2 (by rw [h3];exact hk)) h1
def kidUp (s:Sys) (k j:Nat):List Nat:=(List.range j).filter fun i=>decide ((s.t i).up=k)
theorem kidUp_next (s:Sys)(k j:Nat):kidUp s k (j+1)=kidUp s k j ++ if (s.t j).up=k then [j] else []:=by
 unfold kidUp
 rw [List.range_succ,List.filter_append]
 congr 1
 by_cases h:(s.t j).up=(k:Int)<;>simp [h]
def offTo (n:Nat) (s:Sys) (k j:Nat):Sys:=(kidUp s k j).foldl (offS n) s
theorem offTo_next (n:Nat)(s:Sys)(k j:Nat):offTo n s k (j+1)=if (s.t j).up=k then offS n (offTo n s k j) j else offTo n s k j:=by
 unfold offTo
 rw [kidUp_next,List.foldl_append]
 split<;>rfl
structure OffTo (p:Prog) (s s':Sys):Prop where
 inv:SInv p s'
 n:s'.tasks.length=s.tasks.length
 up:∀ j,(s'.t j).up=(s.t j).up
 mass:mass s'≤mass s
theorem offTo_ok (hI:SInv p s)(hk:k<s.tasks.length){n:Nat}(hn:s.tasks.length-k≤n+1):∀ j,j≤s.tasks.length→OffTo p s (offTo n s k j):=by
 intro j
 induction j with
 | zero=>intro _;exact⟨hI,rfl,fun _=>rfl,Nat.le_refl _⟩
 | succ j ih =>
  intro hj
  have h:=ih (by omega)
  rw [offTo_next]
  split
  ·rename_i hu
   have hkj:k<j:=(kids_after hI hk j (mem_kidList.2 ⟨by omega,hu⟩)).2
   have h1:=(offS_ok (p:=p) n (offTo n s k j) j h.inv (by rw [h.n];omega) (by rw [h.n];omega)).1
   have h2:=offS_mass (p:=p) n (offTo n s k j) j h.inv (by rw [h.n];omega) (by rw [h.n];omega)
   exact⟨h1.inv,h1.n.trans h.n,fun i=>(h1.up i).trans (h.up i),Nat.le_trans h2 h.mass⟩
  ·exact h
end
end Go.Proofs.YtjacjafmimgfcaaGreat
namespace Go.Proofs.YtjacjafmimgfcaaGreat
open Go.RowKit
attribute [local go_sem ↓] Go.wp_at_zero Go.wp_at_succ
def writesLeft (gt k:Nat) (w:World):Nat:=match w.cell? ⟨gt,k*13+5,none⟩,w.cell? ⟨gt,k*13+6,none⟩ with
 | some (.int _ st),some (.int _ ps)=>if st=5 then (10-ps).toNat+1 else 0
 | _,_=>0
theorem writesLeft_eq {gt k:Nat}{w:World}{st ps:Int}(h1:w.cell? ⟨gt,k*13+5,none⟩=some (.int .i64 st))(h2:w.cell? ⟨gt,k*13+6,none⟩=some (.int .i64 ps)):writesLeft gt k w=if st=5 then (10-ps).toNat+1 else 0:=by unfold writesLeft;rw [h1,h2]
structure Writing (m:Mc) (s1:Sys) (k:Nat) (vt:Value) (f:Nat) (s':Sys) (w:World):Prop where
 h:Mach m s' vt w
 e:writeAll 4 s1 k=writeAll f s' k
 inv:SInv m.p s'
 left:(s'.t k).stage=5→((s'.t k).puts.length:Int)-(s'.t k).pos≤f
 fr:Fr k s1 s'
 lg:s'.log.length+f≤s1.log.length+4
theorem off_calls (m:Mc):∀ (d:Nat)(s:Sys)(vt:Value)(w:World)(k:Nat),Mach m s vt w→k<s.tasks.length→SInv m.p s→s.tasks.length-k≤d→mass s≤900000000 →
  Calls Tryz.prog 162 #[.pointer (some ⟨m.g,0,none⟩),.int .i64 k] w (Steps m (offS d s k) vt):=by
 intro d
 induction d with
 | zero=>intro s vt w k _ hk _ h;omega
 | succ d ih0 =>
  intro s vt w k h hk hI hd hm
  have ih:=Lib.hid ih0
  clear ih0
  have HM:=Lib.hid h
  obtain⟨gt,cap,evt⟩:∃ gt cap,vt=.slice (some ⟨gt,0,none⟩) s.tasks.length cap:=by
   obtain⟨R,vc,vl,ts,es,H⟩:=h
   obtain⟨gt,cap,x,e,_⟩:=H.task hk
   exact⟨gt,cap,e⟩
  subst evt
  have hmax:s.tasks.length≤9223372036854775807:=by obtain⟨R,vc,vl,ts,es,H⟩:=h;exact H.max
  have HO:=Lib.hid (fun j hj=>offTo_ok (p:=m.p) (n:=d) hI hk (by omega) j hj)
  have HI:=Lib.hid hI
  clear h hI
  go_enter Tryz.func162,Tryz.ntmps162
  go_wp2
  go_loopw [4] (fun i wr=>∃ j:Nat,j≤s.tasks.length∧i=.int .i64 j∧Mach m (offTo d s k j) (.slice (some ⟨gt,0,none⟩) s.tasks.length cap) wr) (fun i _=>s.tasks.length-(intOf i).toNat)
  case atStart=>exact⟨0,Nat.zero_le _,rfl,HM.out⟩
  case round =>
   obtain⟨j,hj,rfl,hr⟩:=hrel
   have hO:=HO.out j hj
   obtain⟨R,vc,vl,ts,es,H⟩:=hr
   obtain⟨g0,g1,g2,g3,g4,g5⟩:=H.cells
   have hgl:=H.gl
   by_cases hlt:j<s.tasks.length
   ·obtain⟨gt',cap',x,hvt,_,_,_,hlt',hne,hx,hxt,hat,hfz⟩:=H.task (j:=j) (by rw [hO.n];exact hlt)
    injection hvt with hv1 hv2 hv3
    injection hv1 with hv1
    injection hv1 with hv1
    subst hv1
    clear hv2 hv3
    have c2:=hat.c2
    rw [hO.up] at c2
    have y1:(j:Int)<s.tasks.length:=by omega
    have y3:(0:Int)≤j:=by omega
    have HH:=Lib.hid (And.intro H hO)
    clear H hat hx hxt hO g0 g1 g2 g4 g5
    by_cases hu:(s.t j).up=k
    ·have b1:((s.t j).up == (k:Int))=true:=by simp [hu]
     have hkj:k<j:=(kids_after HI.out hk j (mem_kidList.2 ⟨hlt,hu⟩)).2
     have HU:=Lib.hid hu
     have HCC:=Lib.hid (show (offTo d s k j).tasks.length-j≤d∧mass (offTo d s k j)≤900000000∧j<(offTo d s k j).tasks.length by have h1:=HH.out.2.n;have h2:=HH.out.2.mass;omega)
     clear hu hkj
     go_wp2_with (go_at_call 162;go_must (refine(ih.out (offTo d s k j) _ _ j HH.out.1.mach HCC.out.2.2 HH.out.2.inv HCC.out.1 HCC.out.2.1).mono ?_;rintro e w3 ⟨rfl,H3⟩))
     go_roundw
     case rel=>exact⟨j+1,by omega,by go_num,by rw [offTo_next,if_pos HU.out];exact H3⟩
     case measure=>simp [intOf];omega
    ·have b1:((s.t j).up == (k:Int))=false:=by simp [hu]
     have HU:=Lib.hid hu
     clear hu
     go_wp2
     go_roundw
     case rel=>exact⟨j+1,by omega,by go_num,by rw [offTo_next,if_neg HU.out];exact HH.out.1.mach⟩
     case measure=>simp [intOf];omega
   ·obtain rfl:j=s.tasks.length:=by omega
    have hs:offS (d+1) s k=offSelf (offTo d s k s.tasks.length) k:=rfl
    have HS:=Lib.hid hs
    generalize hs1:offTo d s k s.tasks.length=s1 at *
    have hk1:k<s1.tasks.length:=by rw [hO.n];exact hk
    obtain⟨gt',cap',x,hvt,_,_,_,hlt',hne,hx,hxt,hat,hfz⟩:=H.task (j:=k) hk1
    injection hvt with hv1 hv2 hv3
    injection hv1 with hv1
    injection hv1 with hv1
    subst hv1
    have c4:=hat.c4
    have x1:(k:Int)<s.tasks.length:=by omega
    have x3:(0:Int)≤k:=by omega
    have HH:=Lib.hid (And.intro H hO)
    have HK1:=Lib.hid hk1
    clear H hat hx hxt hO g0 g1 g2 g4 g5 hs hv2 hv3 hs1 hlt hj hk1
    by_cases hl:isLive (s1.t k)=true
    rotate_left
    ·have hw:(s1.t k).way≠0∧(s1.t k).way≠1:=by simpa [isLive] using hl
     have b1:((s1.t k).way != 0)=true:=bne_iff_ne.2 hw.1
     have b2:((s1.t k).way != 1)=true:=bne_iff_ne.2 hw.2
     have HL:=Lib.hid (show offSelf s1 k=s1 by unfold offSelf;rw [if_neg hl])
     clear hl hw
     go_wp2
     go_end0
     exact⟨rfl,by rw [HS.out,HL.out];exact HH.out.1.mach⟩
    ·have HL:=Lib.hid (show offSelf s1 k=setWay (if ((writeAll 4 s1 k).t k).stage=0 then writeAll 4 s1 k else againS (writeAll 4 s1 k) k) k 4 by unfold offSelf;rw [if_pos hl])
     have hw:(s1.t k).way=0∨(s1.t k).way=1:=by simpa [isLive] using hl
     have H4:=Lib.hid (show (s1.t k).stage=5→((s1.t k).puts.length:Int)-(s1.t k).pos≤4 from fun e=>by have:=puts_few HH.out.2.inv HK1.out;have:=(HH.out.2.inv.t k HK1.out).s5 e;omega)
     have HMS:=Lib.hid (show s1.log.length≤900000000 by have h1:=HH.out.2.mass;unfold mass at h1 hm;omega)
     clear hl
     rcases hw with hw | hw
     all_goals
      rw [hw] at c4
      clear hw
      go_wp2
      rename_i wo _
      clear hfz c4 g3 hgl hlt'
      go_loopw [] (fun wr=>∃ (f:Nat) (s':Sys),Writing m s1 k (.slice (some ⟨gt,0,none⟩) s.tasks.length cap) f s' wr) (fun wr=>writesLeft gt k wr)
      case atStart=>exact⟨4,s1,HH.out.1.mach,rfl,HH.out.2.inv,H4.out,Fr.refl _ _,Nat.le_refl _⟩
      case round =>
       obtain⟨f,s',HW⟩:=hrel
       have hks:k<s'.tasks.length:=by rw [HW.fr.n];exact HK1.out
       obtain⟨R2,vc2,vl2,ts2,es2,H2⟩:=HW.h
       obtain⟨gt',cap',x2,hvt,_,_,_,hlt2,hne2,hx2,hxt2,hat2,hfz2⟩:=H2.task hks
       injection hvt with hv1 hv2 hv3
       injection hv1 with hv1
       injection hv1 with hv1
       subst hv1
       have p3:=H2.cells.2.2.2.1
       have hgl2:=H2.gl
       have c5:=hat2.c5
       have c6:=hat2.c6
       have hml:=writesLeft_eq c5 c6
       by_cases e5:(s'.t k).stage=5
       ·rw [e5] at c5
        have hT:=(HW.inv.t k hks).s5 e5
        have hpf:=puts_few HW.inv hks
        have hf1:=HW.left e5
        obtain⟨f',rfl⟩:∃ f',f=f'+1:=⟨f-1,by omega⟩
        have hws:=write_stage HW.inv hks e5
        have hwl:=write_log HW.inv hks e5
        have hwr:=HW.lg
        have HWR:=Lib.hid (show s'.log.length≤1000000000 by have:=HMS.out;omega)
        have HE5:=Lib.hid e5
        have HN:Hid (∀ w3,Mach m (writeS s' k) (.slice (some ⟨gt,0,none⟩) s.tasks.length cap) w3→Writing m s1 k (.slice (some ⟨gt,0,none⟩) s.tasks.length cap) f' (writeS s' k) w3∧writesLeft gt k w3<writesLeft gt k wr):=Lib.hid fun w3 h3=>by
         refine⟨⟨h3,?_,HW.inv.write hks e5,fun e=>?_,HW.fr.trans (Fr.write hks),?_⟩,?_⟩
         ·rw [HW.e];show writeAll (f'+1) s' k=_;rw [writeAll,if_pos e5]
         ·rcases hws with h | ⟨_,h1,h2⟩
          ·omega
          ·rw [h1,h2];omega
         ·rcases hwl with ⟨h,_⟩ | h<;>omega
         ·obtain⟨R3,vc3,vl3,ts3,es3,H3⟩:=h3
          have hk3:k<(writeS s' k).tasks.length:=by rw [(Fr.write hks).n];exact hks
          obtain⟨gt',cap',x3',hvt,_,_,_,_,_,_,_,hat3,_⟩:=H3.task hk3
          injection hvt with hv1
          injection hv1 with hv1
          injection hv1 with hv1
          subst hv1
          rw [hml,if_pos e5,writesLeft_eq hat3.c5 hat3.c6]
          rcases hws with h | ⟨h,h1,h2⟩
          ·rw [h,if_neg (by decide)];omega
          ·rw [h,if_pos rfl,h1];omega
        have HWM:=Lib.hid H2.mach
        have HIN:=Lib.hid HW.inv
        clear H2 hat2 hx2 hxt2 hT hf1 hws hwl hwr hml e5 HW hpf hv2 hv3
        go_wp2_with (go_at_call 168;go_must (refine(write_calls m s' _ _ k HWM.out hks HIN.out HE5.out HWR.out).mono ?_;rintro e w3 ⟨rfl,H3⟩))
        go_roundw
        case rel=>exact⟨f',writeS s' k,(HN.out _ H3).1⟩
        case measure=>exact(HN.out _ H3).2
       ·have b5:((s'.t k).stage == 5)=false:=by simp [e5]
        have hwz:writeAll 4 s1 k=s':=by rw [HW.e,writeAll_zero f e5]
        have HZ:=Lib.hid hwz
        have hold:(s'.t k).old.length≤1000000:=by have:=(HW.inv.small hks).old;omega
        by_cases e0:(s'.t k).stage=0
        ·have b0:((s'.t k).stage != 0)=false:=by simp [e0]
         have HE0:=Lib.hid e0
         have c4:=hat2.c4
         have HX:=Lib.hid (And.intro H2 (And.intro hx2 hxt2))
         clear H2 hat2 hx2 hxt2 hml e5 HW hwz e0 hv2 hv3
         go_wp2
         go_end0
         refine⟨rfl,?_⟩
         rw [HS.out,HL.out,HZ.out,if_pos HE0.out]
         obtain⟨h1,h2,h3⟩:=HX.out
         have:=h1.int h2 4 (by omega) 4 { x2.t with way:=4 } rfl rfl rfl rfl rfl
         rw [h3] at this
         exact this.mach
        ·have b0:((s'.t k).stage != 0)=true:=bne_iff_ne.2 e0
         have HE0:=Lib.hid e0
         have HWM:=Lib.hid H2.mach
         have hka:k<(againS s' k).tasks.length:=by show k<(s'.tasks.set k _).length;simpa using hks
         have HKA:=Lib.hid hka
         clear H2 hat2 hx2 hxt2 hml e5 HW hwz e0 hv2 hv3 hka
         go_wp2_with (go_at_call 169;go_must (refine(again_calls m s' _ _ k HWM.out hks hold).mono ?_;rintro e w3 ⟨rfl,R3,vc3,vl3,ts3,es3,H3⟩;obtain⟨gt',cap',x3',hvt,_,_,_,hlt3,hne3,hx3,hxt3,hat3,hfz3⟩:=H3.task HKA.out;injection hvt with hv1 hv2 hv3;injection hv1 with hv1;injection hv1 with hv1;subst hv1;have q3:=H3.cells.2.2.2.1;have hgl3:=H3.gl;have d4:=hat3.c4))
         go_end0
         refine⟨rfl,?_⟩
         rw [HS.out,HL.out,HZ.out,if_neg HE0.out]
         have:=H3.int hx3 4 (by omega) 4 { x3'.t with way:=4 } rfl rfl rfl rfl rfl
         rw [hxt3] at this
         exact this.mach
end Go.Proofs.YtjacjafmimgfcaaGreat
namespace Go.Proofs.YtjacjafmimgfcaaGreat
open Go.RowKit
attribute [local go_sem ↓] Go.wp_at_zero Go.wp_at_succ
theorem awaits_calls (m:Mc)(s:Sys)(vt:Value)(w:World)(k:Nat)(h:Mach m s vt w)(hk:k<s.tasks.length)(hI:SInv m.p s)(hm:mass s≤900000000) :
  Calls Tryz.prog 155 #[.pointer (some ⟨m.g,0,none⟩),.int .i64 k] w (Steps m (awaitS s k) vt):=by
 have HM:=Lib.hid h
 obtain⟨R,vc,vl,ts,es,H⟩:=h
 obtain⟨gt,cap,Ar,cr,Ao,co,Ad,cd,Au,cu,rfl,hx,_,_,_,_⟩:=H.at_ hk
 obtain⟨hne,hlt,hgl,_,g3,_,_,hat,hfz,_⟩:=H.see hx
 have hmax:=H.max
 obtain⟨A,B,C,ca,cb,cc,e1,e2,e3,_,_,_,hSR⟩:=H.sys.read
 injection e2 with e21 e22 e23
 subst e21;subst e23
 have hT:=hSR.t
 have c1:=hat.c1
 have c4:=hat.c4
 have x1:(k:Int)<s.tasks.length:=by omega
 have x3:(0:Int)≤k:=by omega
 have hS:=hI.small hk
 have hp0:=hS.pc0
 have hp1:=hS.pc1
 have hw1:IntKind.i64.wrap ((s.t k).pc+1)=(s.t k).pc+1:=IntWalk.i64_in _ (by omega)
 have hkb:=kidsOf_bound s k 3
 have hak:=kidsOf_pos s k 3
 have HH:=Lib.hid (And.intro H hx)
 have HI:=Lib.hid hI
 clear H hx hSR hS hI e1 e3
 by_cases hz:kidsOf s k 3=0
 ·have b0:(kidsOf s k 3 == 0)=true:=by simp [hz]
  have HL:=Lib.hid (show awaitS s k=s.setT k { s.t k with way:=0,pc:=(s.t k).pc+1 } by unfold awaitS;rw [if_neg (by rw [hak,hz];decide)])
  clear hz hak
  have H2:=HH.out.1.int HH.out.2 4 (by omega) 0 { s.t k with way:=0 } rfl rfl rfl rfl rfl
  have hx2:=ts_set (y:=⟨{ s.t k with way:=0 },.slice Ar (s.t k).regs.length cr,.slice Ao (s.t k).old.length co,.slice Ad (s.t k).reads.length cd,.slice Au (s.t k).puts.length cu⟩) HH.out.2
  have H2':=Lib.hid H2
  clear H2 hat
  go_enter Tryz.func155,Tryz.ntmps155
  go_wp2_with (go_at_call 147;go_must (refine(kids_calls s m.g _ cap k 3 w _ hT g3).mono ?_;rintro e w2 ⟨rfl,rfl⟩))
  obtain⟨W2,HW2⟩:∃ W2,W2=w.setCell ⟨gt,k*13+4,none⟩ (.int .i64 0):=⟨_,rfl⟩
  have H2:=H2'.out
  rw [← HW2] at H2 ⊢
  clear HW2 c1 c4 g3 hT hfz H2'
  obtain⟨_,hlt2,hgl2,_,p3,_,_,hat2,hfz2,_⟩:=H2.see hx2
  have d1:=hat2.c1
  have H3:=(H2.int hx2 1 (by omega) ((s.t k).pc+1) { s.t k with way:=0,pc:=(s.t k).pc+1 } rfl rfl rfl rfl rfl).below ((Below.refl _ _).drew)
  rw [setT_setT] at H3
  have HM3:=Lib.hid H3.mach
  clear H2 H3 hat2
  go_still_tail 18,(by kernel_rfl)
  go_wp2
  go_end0
  exact⟨rfl,by rw [HL.out];exact HM3.out⟩
 ·have b0:(kidsOf s k 3 == 0)=false:=by simp [hz]
  have hpos:0<kidsOf s k 3:=by omega
  have HL:=Lib.hid (show awaitS s k=setWay (offTo s.tasks.length s k s.tasks.length) k 3 by unfold awaitS;rw [if_pos (by rw [hak];simpa using hpos)];rfl)
  have HO:=Lib.hid (fun j hj=>offTo_ok (p:=m.p) (n:=s.tasks.length) HI.out hk (by omega) j hj)
  clear hz hak hpos hat
  go_enter Tryz.func155,Tryz.ntmps155
  go_wp2_with (go_at_call 147;go_must (refine(kids_calls s m.g _ cap k 3 w _ hT g3).mono ?_;rintro e w2 ⟨rfl,rfl⟩))
  clear c1 c4 hT hfz g3
  go_loopw [4] (fun i wr=>∃ j:Nat,j≤s.tasks.length∧i=.int .i64 j∧Mach m (offTo s.tasks.length s k j) (.slice (some ⟨gt,0,none⟩) s.tasks.length cap) wr) (fun i _=>s.tasks.length-(intOf i).toNat)
  case atStart=>exact⟨0,Nat.zero_le _,rfl,HM.out⟩
  case round =>
   obtain⟨j,hj,rfl,hr⟩:=hrel
   have hO:=HO.out j hj
   obtain⟨R,vc,vl,ts,es,H⟩:=hr
   obtain⟨g0,g1,g2,g3,g4,g5⟩:=H.cells
   have hgl:=H.gl
   by_cases hlt:j<s.tasks.length
   ·obtain⟨gt',cap',x,hvt,_,_,_,hlt',hne,hx,hxt,hat,hfz⟩:=H.task (j:=j) (by rw [hO.n];exact hlt)
    injection hvt with hv1 hv2 hv3
    injection hv1 with hv1
    injection hv1 with hv1
    subst hv1
    clear hv2 hv3
    have c2:=hat.c2
    rw [hO.up] at c2
    have y1:(j:Int)<s.tasks.length:=by omega
    have y3:(0:Int)≤j:=by omega
    have HH:=Lib.hid (And.intro H hO)
    clear H hat hx hxt hO g0 g1 g2 g4 g5
    by_cases hu:(s.t j).up=k
    ·have b1:((s.t j).up == (k:Int))=true:=by simp [hu]
     have HU:=Lib.hid hu
     have HCC:=Lib.hid (show (offTo s.tasks.length s k j).tasks.length-j≤s.tasks.length∧mass (offTo s.tasks.length s k j)≤900000000∧j<(offTo s.tasks.length s k j).tasks.length by have h1:=HH.out.2.n;have h2:=HH.out.2.mass;omega)
     clear hu
     go_wp2_with (go_at_call 162;go_must (refine(off_calls m s.tasks.length (offTo s.tasks.length s k j) _ _ j HH.out.1.mach HCC.out.2.2 HH.out.2.inv HCC.out.1 HCC.out.2.1).mono ?_;rintro e w3 ⟨rfl,H3⟩))
     go_roundw
     case rel=>exact⟨j+1,by omega,by go_num,by rw [offTo_next,if_pos HU.out];exact H3⟩
     case measure=>simp [intOf];omega
    ·have b1:((s.t j).up == (k:Int))=false:=by simp [hu]
     have HU:=Lib.hid hu
     clear hu
     go_wp2
     go_roundw
     case rel=>exact⟨j+1,by omega,by go_num,by rw [offTo_next,if_neg HU.out];exact HH.out.1.mach⟩
     case measure=>simp [intOf];omega
   ·obtain rfl:j=s.tasks.length:=by omega
    have HK:=Lib.hid (show k<(offTo s.tasks.length s k s.tasks.length).tasks.length by rw [hO.n];exact hk)
    have HH:=Lib.hid H.mach
    clear H hO g0 g1 g2 g4 g5
    go_wp2_with (go_at_call 158;go_must (refine(fails_calls m _ _ _ k HH.out HK.out).mono ?_;rintro e w3 ⟨rfl,H3⟩))
    go_end0
    exact⟨rfl,by rw [HL.out];exact H3⟩
end Go.Proofs.YtjacjafmimgfcaaGreat
namespace Go.Proofs.YtjacjafmimgfcaaGreat
open Go.RowKit
attribute [local go_sem ↓] Go.wp_at_zero Go.wp_at_succ
theorem act_calls (m:Mc)(s:Sys)(vt:Value)(w:World)(k:Nat)(h:Mach m s vt w)(hk:k<s.tasks.length)(hI:SInv m.p s) :
  Calls Tryz.prog 154 #[.pointer (some ⟨m.g,0,none⟩),.int .i64 k] w fun e w'=>∃ F cf K ck,e=.returned (.tuple #[actV (m.p.act (s.t k)) F K cf ck,.bool (m.p.there (s.t k))])∧(m.p.there (s.t k)=true→Row kDeed w' (fun k=>k<m.base) F (m.p.act (s.t k)).deeds∧Row Kd.int w' (fun k=>k<m.base) K (m.p.act (s.t k)).kids)∧Below w.heap.size w w':=by
 have hT:=hI.t k hk
 by_cases hp:(s.t k).pc<(m.p.acts (s.t k).body).length
 ·have ht:m.p.there (s.t k)=true:=by unfold Prog.there;simpa using hp
  refine(act_yes m s vt w k h hk hT.body.1 hT.body.2 hT.pc.1 hp).mono ?_
  rintro e w2 ⟨⟨F,cf,K,ck,rfl,hF,hK⟩,hb⟩
  exact⟨F,cf,K,ck,by rw [ht],fun _=>⟨hF,hK⟩,hb⟩
 ·have ht:m.p.there (s.t k)=false:=by unfold Prog.there;simpa using hp
  have ha:m.p.act (s.t k)=noAct:=by
   unfold Prog.act
   rw [List.getD_eq_getElem?_getD,List.getElem?_eq_none (by have:=hT.pc.1;omega)]
   rfl
  refine(act_no m s vt w k h hk hT.body.1 hT.body.2 hT.pc.1 (by omega)).mono ?_
  rintro e w2 ⟨rfl,hb⟩
  exact⟨none,0,none,0,by rw [ht,ha];rfl,fun e=>by simp [ht] at e,hb⟩
theorem step_calls (m:Mc)(s:Sys)(vt:Value)(w:World)(k:Nat)(h:Mach m s vt w)(hk:k<s.tasks.length)(hI:SInv m.p s)(hlg:s.log.length≤1000000000)(hn:s.tasks.length≤1000000)(hm:mass s≤900000000) :
  Calls Tryz.prog 144 #[.pointer (some ⟨m.g,0,none⟩),.int .i64 k] w (fun e w'=>e=.returned (.tuple #[])∧∃ vt',Mach m (stepS m.p s k) vt' w'):=by
 have HM:=Lib.hid h
 have HI:=Lib.hid hI
 have HT:=Lib.hid (hI.t k hk)
 obtain⟨R,vc,vl,ts,es,H⟩:=h
 obtain⟨gt,cap,Ar,cr,Ao,co,Ad,cd,Au,cu,rfl,hx,hr,ho,hd,hu⟩:=H.at_ hk
 have hgl:=H.gl
 have hmax:=H.max
 have x1:(k:Int)<s.tasks.length:=by omega
 have x3:(0:Int)≤k:=by omega
 have HH:=Lib.hid (And.intro H hx)
 clear H hx hI
 by_cases hw:(s.t k).way=1
 ·have HL:Hid (stepS m.p s k=awaitS s k):=Lib.hid (by unfold stepS;simp only [];rw [if_pos hw])
  have bw:((s.t k).way == 1)=true:=by simp [hw]
  clear hw hr ho hd hu
  go_enter Tryz.func144,Tryz.ntmps144
  go_wp2_with (first | (go_at_call 154;go_must (refine(act_calls m s _ w k HM.out hk HI.out).mono ?_;rintro e w2 ⟨F,cf,K,ck,rfl,hFK,hb⟩;simp only [actV];have H2:=Lib.hid (HH.out.1.below hb);have HFK:=Lib.hid hFK;obtain⟨hne,hlt2,hgl2,_,g3,_,_,hat,hfz,_⟩:=H2.out.see HH.out.2;have c4:=hat.c4;have c3:=hat.c3;have c1:=hat.c1;clear hat hFK hb)) | (go_at_call 155;go_must (refine(awaits_calls m s _ _ k (H2.out.mach.below (by repeat' (first | exact Below.refl _ _ | apply below_drewN' | (refine Below.setCell ?_ (by simp) _) | (refine Below.alloc ?_ (by simp) _)))) hk HI.out hm).mono ?_;rintro e w9 ⟨rfl,H9⟩)))
  go_end0
  exact⟨rfl,_,by rw [HL.out];exact H9⟩
 have bw:((s.t k).way == 1)=false:=by simp [hw]
 by_cases ht:m.p.there (s.t k)=false
 ·have HL:Hid (stepS m.p s k=setWay s k 2):=Lib.hid (by unfold stepS;simp only [];rw [if_neg hw,if_pos ht])
  clear hw hr ho hd hu
  go_enter Tryz.func144,Tryz.ntmps144
  go_wp2_with (go_at_call 154;go_must (refine(act_calls m s _ w k HM.out hk HI.out).mono ?_;rintro e w2 ⟨F,cf,K,ck,rfl,hFK,hb⟩;simp only [actV];have H2:=Lib.hid (HH.out.1.below hb);have HFK:=Lib.hid hFK;obtain⟨hne,hlt2,hgl2,_,g3,_,_,hat,hfz,_⟩:=H2.out.see HH.out.2;have c4:=hat.c4;have c3:=hat.c3;have c1:=hat.c1;clear hat hFK hb))
  go_end0
  exact⟨rfl,_,by rw [HL.out];exact((H2.out.int HH.out.2 4 (by omega) 2 { s.t k with way:=2 } rfl rfl rfl rfl rfl).mach).al _⟩
 have ht:m.p.there (s.t k)=true:=by simpa using ht
 have hpc:(s.t k).pc<(m.p.acts (s.t k).body).length:=by unfold Prog.there at ht;simpa using ht
 have HP:=Lib.hid hpc
 by_cases h1:(m.p.act (s.t k)).kind=1
 ·have HL:Hid (stepS m.p s k=tryS s k (m.p.act (s.t k)).deeds):=Lib.hid (by unfold stepS;simp only [];rw [if_neg hw,if_neg (by simp [ht]),if_pos h1])
  have b1:((m.p.act (s.t k)).kind == 1)=true:=by simp [h1]
  have HK1:=Lib.hid h1
  have HT1:=Lib.hid ht
  clear hw hr ho hd hu hpc h1
  go_enter Tryz.func144,Tryz.ntmps144
  go_wp2_with (first | (go_at_call 154;go_must (refine(act_calls m s _ w k HM.out hk HI.out).mono ?_;rintro e w2 ⟨F,cf,K,ck,rfl,hFK,hb⟩;simp only [actV];have H2:=Lib.hid (HH.out.1.below hb);have HFK:=Lib.hid hFK;obtain⟨hne,hlt2,hgl2,_,g3,_,_,hat,hfz,_⟩:=H2.out.see HH.out.2;have c4:=hat.c4;have c3:=hat.c3;have c1:=hat.c1;clear hat hFK hb)) | (go_at_call 156;go_must (refine(try_calls m s _ _ k (m.p.act (s.t k)).deeds F cf ⟨(H2.out.mach.below (by repeat' (first | exact Below.refl _ _ | apply below_drewN' | (refine Below.setCell ?_ (by simp) _) | (refine Below.alloc ?_ (by simp) _)))),hk,HI.out,hlg,HP.out,HK1.out,rfl,⟨_,(HFK.out HT1.out).1.belowAll (by repeat' (first | exact Below.refl _ _ | apply below_drewN' | (refine Below.setCell ?_ (by simp) _) | (refine Below.alloc ?_ (by simp) _)))⟩⟩).mono ?_;rintro e w9 ⟨rfl,H9⟩)))
  go_end0
  exact⟨rfl,_,by rw [HL.out];exact H9⟩
 have b1:((m.p.act (s.t k)).kind == 1)=false:=by simp [h1]
 by_cases h2:(m.p.act (s.t k)).kind=2
 ·have HL:Hid (stepS m.p s k=forkS s k (m.p.act (s.t k)).kids):=Lib.hid (by unfold stepS;simp only [];rw [if_neg hw,if_neg (by simp [ht]),if_neg h1,if_pos h2])
  have b2:((m.p.act (s.t k)).kind == 2)=true:=by simp [h2]
  have HKI:=Lib.hid (act_kids HI.out.prog HT.out hpc h2)
  have HT1:=Lib.hid ht
  clear hw hr ho hd hu hpc h1 h2
  go_enter Tryz.func144,Tryz.ntmps144
  go_wp2_with (first | (go_at_call 154;go_must (refine(act_calls m s _ w k HM.out hk HI.out).mono ?_;rintro e w2 ⟨F,cf,K,ck,rfl,hFK,hb⟩;simp only [actV];have H2:=Lib.hid (HH.out.1.below hb);have HFK:=Lib.hid hFK;obtain⟨hne,hlt2,hgl2,_,g3,_,_,hat,hfz,_⟩:=H2.out.see HH.out.2;have c4:=hat.c4;have c3:=hat.c3;have c1:=hat.c1;clear hat hFK hb)) | (go_at_call 157;go_must (refine(fork_calls m s _ _ k (m.p.act (s.t k)).kids K ck _ (H2.out.mach.below (by repeat' (first | exact Below.refl _ _ | apply below_drewN' | (refine Below.setCell ?_ (by simp) _) | (refine Below.alloc ?_ (by simp) _)))) hk hn (by have:=HKI.out;omega) ((HFK.out HT1.out).2.belowAll (by repeat' (first | exact Below.refl _ _ | apply below_drewN' | (refine Below.setCell ?_ (by simp) _) | (refine Below.alloc ?_ (by simp) _)))) (fun _ h=>h)).mono ?_;rintro e w9 ⟨rfl,H9⟩)))
  go_end0
  exact⟨rfl,by rw [HL.out];exact H9⟩
 have b2:((m.p.act (s.t k)).kind == 2)=false:=by simp [h2]
 rcases act_reg HI.out.prog HT.out hpc h1 h2 with ⟨h3,hr0⟩ | ⟨h4,hr0,hr2⟩
 ·have HL:Hid (stepS m.p s k=setWay s k 3):=Lib.hid (by unfold stepS;simp only [];rw [if_neg hw,if_neg (by simp [ht]),if_neg h1,if_neg h2,if_pos (.inl h3)])
  have b3:((m.p.act (s.t k)).kind == 3)=true:=by simp [h3]
  clear hw hr ho hd hu hpc h1 h2 h3 hr0
  go_enter Tryz.func144,Tryz.ntmps144
  go_wp2_with (go_at_call 154;go_must (refine(act_calls m s _ w k HM.out hk HI.out).mono ?_;rintro e w2 ⟨F,cf,K,ck,rfl,hFK,hb⟩;simp only [actV];have H2:=Lib.hid (HH.out.1.below hb);have HFK:=Lib.hid hFK;obtain⟨hne,hlt2,hgl2,_,g3,_,_,hat,hfz,_⟩:=H2.out.see HH.out.2;have c4:=hat.c4;have c3:=hat.c3;have c1:=hat.c1;clear hat hFK hb))
  go_quiet (fail)
  go_wp2_with (go_at_call 158;go_must (refine(fails_calls m s _ _ k (H2.out.mach.below (by repeat' (first | exact Below.refl _ _ | apply below_drewN' | (refine Below.setCell ?_ (by simp) _) | (refine Below.alloc ?_ (by simp) _)))) hk).mono ?_;rintro e w9 ⟨rfl,H9⟩))
  go_end0
  exact⟨rfl,_,by rw [HL.out];exact H9⟩
 have h3:(m.p.act (s.t k)).kind≠3:=by omega
 have b3:((m.p.act (s.t k)).kind == 3)=false:=by simp [h3]
 have hrl:(m.p.act (s.t k)).reg.toNat<(s.t k).regs.length:=by have:=HT.out.regs.2;omega
 have HR:=Lib.hid hrl
 have HRV:=Lib.hid (show (s.t k).regs[(m.p.act (s.t k)).reg.toNat]=rdI (s.t k).regs (m.p.act (s.t k)).reg from (getD_at _ _ _ hrl).symm)
 by_cases hz:rdI (s.t k).regs (m.p.act (s.t k)).reg=0
 ·have HL:Hid (stepS m.p s k=s.setT k { s.t k with pc:=(s.t k).pc+1 }):=Lib.hid (by unfold stepS;simp only [];rw [if_neg hw,if_neg (by simp [ht]),if_neg h1,if_neg h2,if_neg (by rintro (h | h);exact h3 h;exact h hz)])
  have bz:(rdI (s.t k).regs (m.p.act (s.t k)).reg != 0)=false:=by simp [hz]
  have hS:=HI.out.small hk
  have hp0:=hS.pc0
  have hp1:=hS.pc1
  have hw1:IntKind.i64.wrap ((s.t k).pc+1)=(s.t k).pc+1:=IntWalk.i64_in _ (by omega)
  clear hS
  clear hw hr ho hd hu hpc h1 h2 h3 hz
  go_enter Tryz.func144,Tryz.ntmps144
  go_wp2_with (go_at_call 154;go_must (refine(act_calls m s _ w k HM.out hk HI.out).mono ?_;rintro e w2 ⟨F,cf,K,ck,rfl,hFK,hb⟩;simp only [actV];have H2:=Lib.hid (HH.out.1.below hb);have HFK:=Lib.hid hFK;obtain⟨hne,hlt2,hgl2,_,g3,_,_,hat,hfz,_⟩:=H2.out.see HH.out.2;have c4:=hat.c4;have c3:=hat.c3;have c1:=hat.c1;clear hat hFK hb;obtain⟨gr,hAr,hgr,_,_,r1,_⟩:=H2.out.reg HH.out.2 HR.out;have r0:w2.cell? ⟨gr,(m.p.act (s.t k)).reg.toNat,none⟩=some (.int .i64 (rdI (s.t k).regs (m.p.act (s.t k)).reg)):=r1.trans (congrArg (fun x=>some (Value.int .i64 x)) HRV.out);clear r1;subst hAr))
  go_quiet (fail)
  go_wp2_with fail
  generalize HW:World.drewN (World.alloc _ _) _=W
  have HB:Below w2.heap.size w2 W:=by rw [← HW];exact(by repeat' (first | exact Below.refl _ _ | apply below_drewN' | (refine Below.setCell ?_ (by simp) _) | (refine Below.alloc ?_ (by simp) _)))
  have H3:=H2.out.below HB
  clear HW c1 c3 c4 g3 hfz r0 hlt2 hgl2 hne
  obtain⟨hne,hlt3,hgl3,_,g3,_,_,hat3,hfz3,_⟩:=H3.see HH.out.2
  have c1:=hat3.c1
  have H4:=Lib.hid ((H3.int HH.out.2 1 (by omega) ((s.t k).pc+1) { s.t k with pc:=(s.t k).pc+1 } rfl rfl rfl rfl rfl).below ((Below.refl _ _).drew)).mach
  clear H3 hat3 HB
  go_still_tail 18,(by kernel_rfl)
  go_wp2
  go_end0
  exact⟨rfl,_,by rw [HL.out];exact H4.out⟩
 ·have HL:Hid (stepS m.p s k=setWay s k 3):=Lib.hid (by unfold stepS;simp only [];rw [if_neg hw,if_neg (by simp [ht]),if_neg h1,if_neg h2,if_pos (.inr hz)])
  have bz:(rdI (s.t k).regs (m.p.act (s.t k)).reg != 0)=true:=by simp [hz]
  clear hw hr ho hd hu hpc h1 h2 h3 hz
  go_enter Tryz.func144,Tryz.ntmps144
  go_wp2_with (go_at_call 154;go_must (refine(act_calls m s _ w k HM.out hk HI.out).mono ?_;rintro e w2 ⟨F,cf,K,ck,rfl,hFK,hb⟩;simp only [actV];have H2:=Lib.hid (HH.out.1.below hb);have HFK:=Lib.hid hFK;obtain⟨hne,hlt2,hgl2,_,g3,_,_,hat,hfz,_⟩:=H2.out.see HH.out.2;have c4:=hat.c4;have c3:=hat.c3;have c1:=hat.c1;clear hat hFK hb;obtain⟨gr,hAr,hgr,_,_,r1,_⟩:=H2.out.reg HH.out.2 HR.out;have r0:w2.cell? ⟨gr,(m.p.act (s.t k)).reg.toNat,none⟩=some (.int .i64 (rdI (s.t k).regs (m.p.act (s.t k)).reg)):=r1.trans (congrArg (fun x=>some (Value.int .i64 x)) HRV.out);clear r1;subst hAr))
  go_quiet (fail)
  go_wp2_with (go_at_call 158;go_must (refine(fails_calls m s _ _ k (H2.out.mach.below (by repeat' (first | exact Below.refl _ _ | apply below_drewN' | (refine Below.setCell ?_ (by simp) _) | (refine Below.alloc ?_ (by simp) _)))) hk).mono ?_;rintro e w9 ⟨rfl,H9⟩))
  go_end0
  exact⟨rfl,_,by rw [HL.out];exact H9⟩
end Go.Proofs.YtjacjafmimgfcaaGreat
