/- FnLogDoBad: whatever the bytes are, the law returns true, and they read as they did. -/
import Derived.Test.YtjacjafmimgfcaaGreatRows
import Derived.WalkKit
import Derived.ProofKit
import Derived.OpenShut
import Derived.ShutString
import Derived.ChangeOld
import Derived.Below
import Derived.SizedLaws
import Derived.ChangeSlices
import Derived.Test.YtjacjafmimgfcaaGreatBaa
set_option linter.unusedVariables false
set_option linter.unusedSimpArgs false
namespace Go.Proofs.YtjacjafmimgfcaaGreat.fnLogDoBad
open Go.ChangeShapes Go.WideShapes Go.ChangeAt Go.RowKit
theorem own:ownKnob Tryz.prog.godebug=none:=by kernel_rfl
theorem laidOut:laidOutB Tryz.prog=true:=by kernel_rfl
def IsRow (k:IntKind) (w:World) (a:Option Addr) (len cap:Nat) (zs:List Int):Prop :=
 (a=none∧len=0∧cap=0∧zs=[]) ∨
 ∃ x,a=some x∧len≤cap∧cap≤maxLen∧zs.length=cap∧(∀ i,i<zs.length→w.cell? (x.add i)=some (.int k (zs.getD i 0)))∧∀ n ∈ zs,(Lit.int k n).wf=true
theorem IsRow.bytes {w:World}{a:Option Addr}{len cap:Nat}{zs:List Int}(h:IsRow .u8 w a len cap zs):∃ bs:List Int,len=bs.length∧bs.length≤cap∧Row Kd.byte w (fun k=>k<w.heap.size) a bs:=by
 rcases h with ⟨rfl,rfl,rfl,rfl⟩ | ⟨x,rfl,hl,hm,hz,hc,hw⟩
 ·exact⟨[],rfl,Nat.le_refl _,Row.nil _ _ _ _⟩
 ·refine⟨zs.take len,by simp;omega,by simp;omega,by simp [maxLen] at hm ⊢;omega,fun hne=>?_⟩
  have hpos:0<zs.length:=by
   rcases Nat.eq_zero_or_pos zs.length with h | h
   ·exact absurd (List.length_eq_zero_iff.1 (by simp;omega)) hne
   ·exact h
  have hlt:x.block<w.heap.size:=by
   have:=block_lt_of_cell (hc 0 hpos)
   rwa [block_add] at this
  refine⟨x,rfl,hlt,hlt,fun j y hj=>?_⟩
  have hjl:j<zs.length:=by
   have:=(List.getElem?_eq_some_iff.1 hj).1
   simp at this;omega
  have hy:zs[j]?=some y:=by
   rw [List.getElem?_take] at hj
   split at hj
   ·exact hj
   ·cases hj
  have hcj:=hc j hjl
  rw [List.getD_eq_getElem?_getD,hy,Option.getD_some] at hcj
  have hwj:=hw y (List.mem_of_getElem? hy)
  refine⟨_,⟨rfl,?_⟩,fun i u hu=>?_⟩
  ·simp [Lit.wf] at hwj
   exact hwj
  ·match i with
   | 0=>simp at hu;subst hu;simpa [Kd.byte] using hcj
   | i+1=>simp at hu
set_option maxRecDepth 100000 in
theorem lifted (os:Os)(started:os.Started)(H:Type)(enc:TypeId × Value→H) :
  ReturnsInHanded {} Tryz.checked os 6 .any (Rows.fnLogDoBadSpec.pre6 enc Tryz.prog Tryz.f6 Rows.fnLogDoBadRow.domain false) (Rows.fnLogDoBadSpec.post enc Tryz.prog Tryz.f6 false true false false):=by
 refine returnsInHanded_of_change_sized (C:=Tryz.checked) own started (by kernel_rfl) Tryz.func6
  (ChangeSpec.witness6 (enc:=enc) (C:=Tryz.checked) false ⟨#[],#[.slice none 0 0],[]⟩ 8 (by kernel_rfl) (by kernel_rfl) (by kernel_rfl) (by kernel_rfl)) ?_
 intro W base args ds gs before hval0 hW hcnd hsz0 _
 have hval:∀ (j:Nat) t v,Tryz.f6.params[j]?=some t→args[j]?=some v→Value.okWide Tryz.prog W .any base t v:=hval0
 have hW':=hW
 obtain⟨p,q,hA0,hV,rfl,hfz,hnd⟩:=hW
 have hA:DataW.TrodAll enc Tryz.prog W 0 (fun _=>true) true Tryz.f6.params.toList args.toList ds p:=hA0
 rw [Tryz.params6] at hA hval
 obtain⟨v0,vs0,d0,ds0,p0,q0,hargs,rfl,rfl,h0,r0⟩:=trodAll_cons hA
 obtain⟨rfl,rfl,rfl⟩:=trodAll_nil r0
 obtain rfl:args=#[v0]:=by cases args;simp_all
 obtain⟨rfl,rfl⟩:=trodVars_none hV
 obtain⟨a0,len0,cap0,rfl⟩:=okWide_slice Tryz.underlying59 (hval 0 59 v0 rfl rfl)
 have k0:=h0
 have lt0:∀ x ∈ p0,x.block<W.heap.size:=by obtain⟨m,hm⟩:=k0;exact DataW.trod_lt m _ _ _ hm
 obtain⟨z0,w0⟩:∃ zs,IsRow .u8 W a0 len0 cap0 zs:=by
  obtain⟨fuel,hf⟩:=h0
  rcases open_ints Tryz.underlying59 Tryz.underlying5 (by kernel_rfl) hf with ⟨hcs,_⟩ | ⟨x,l,c,zs,hcs,_,hl,hm,hz,hx,hcell,hwz⟩
  ·simp [Value.cells] at hcs
   obtain⟨rfl,rfl,rfl⟩:=hcs
   exact⟨[],.inl ⟨rfl,rfl,rfl,rfl⟩⟩
  ·simp [Value.cells] at hcs
   obtain⟨rfl,rfl,rfl⟩:=hcs
   exact⟨zs,.inr ⟨_,rfl,hl,hm,by simpa using hz,hcell,hwz⟩⟩
 obtain⟨bs,rfl,hbc,hrow⟩:=w0.bytes
 clear hA0 hval0 hsz0
 refine(fnLogDoBad_calls bs a0 cap0 W (fun k=>k<W.heap.size) hrow (fun k hk=>hk) hbc).mono fun e W' ⟨he,bel⟩=>?_
 subst he
 exact⟨_,rfl,_,_,_,[],_,[],hW',trodAll_mk1 (shut_bool Tryz.underlying4 _),(trodAll_cons_mk (Below.trod laidOut (by kernel_rfl) (of_decide_eq_true (by kernel_rfl)) k0 bel lt0) trodAll_mk0),rfl,bel.frame _,fun h=>by cases h⟩
theorem over:Rows.fnLogDoBadRow.holds Tryz.pinned (OpenSpec.ofChange Rows.fnLogDoBadSpec) :=
 OpenClaim.holds_of_wide 6 Tryz.f6 rfl rfl rfl rfl rfl rfl rfl ⟨rfl,rfl,rfl,rfl,rfl⟩ rfl rfl rfl rfl rfl (by kernel_rfl) Tryz.func6 (by kernel_rfl)
  (of_decide_eq_true (by kernel_rfl)) (by unfold Func.isWrapper;first | (rw [if_pos (by decide +kernel)];kernel_rfl) | (rw [if_neg (by decide +kernel)];exact⟨rfl,rfl⟩))
  (fun os started H enc _=>lifted os started H enc)
theorem proved:Rows.FnLogDoBadSaid:=over
end Go.Proofs.YtjacjafmimgfcaaGreat.fnLogDoBad
namespace Go.Proofs.YtjacjafmimgfcaaGreat
theorem fnLogDoBad_holds:Rows.FnLogDoBadSaid:=fnLogDoBad.proved
end Go.Proofs.YtjacjafmimgfcaaGreat
