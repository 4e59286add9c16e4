/- Changes in the order of their times: plain Lean. -/
import Derived.Test.YtjacjafmimgfcaaGreatWag
set_option linter.unusedVariables false
set_option linter.unusedSimpArgs false
namespace Go.Proofs.YtjacjafmimgfcaaGreat
def aheadE (a b:Entry):Bool:=decide (a.whn<b.whn) || (decide (a.whn=b.whn) && (decide (0<a.puts.length) && decide (b.puts.length=0)))
def scanAt (e:Entry) (out:List Entry):Nat→Nat
 | 0=>0
 | n+1=>if aheadE e (out.getD n noEntry) then scanAt e out n else n+1
def ordIn (out:List Entry) (e:Entry):List Entry:=out.take (scanAt e out out.length) ++ e :: out.drop (scanAt e out out.length)
def logOrder (l:List Entry):List Entry:=l.foldl ordIn []
theorem scanAt_le (e:Entry)(out:List Entry):∀ n,scanAt e out n≤n:=by
 intro n
 induction n with
 | zero=>exact Nat.le_refl _
 | succ n ih=>unfold scanAt;split<;>omega
theorem ordIn_len (out:List Entry)(e:Entry):(ordIn out e).length=out.length+1:=by
 have:=scanAt_le e out out.length
 unfold ordIn;simp;omega
theorem ordIn_mem {out:List Entry}{e x:Entry}(h:x ∈ ordIn out e):x=e∨x ∈ out:=by
 unfold ordIn at h
 rw [List.mem_append,List.mem_cons] at h
 rcases h with h | h | h
 ·exact .inr (List.mem_of_mem_take h)
 ·exact .inl h
 ·exact .inr (List.mem_of_mem_drop h)
theorem logOrder_snoc (l:List Entry)(k:Nat)(h:k<l.length):logOrder (l.take (k+1))=ordIn (logOrder (l.take k)) l[k]:=by
 unfold logOrder;rw [List.take_succ_eq_append_getElem h,List.foldl_append];rfl
theorem ord_fold (l:List Entry):∀ out:List Entry,(l.foldl ordIn out).length=out.length+l.length∧∀ x ∈ l.foldl ordIn out,x ∈ out∨x ∈ l:=by
 induction l with
 | nil=>intro out;exact⟨rfl,fun x h=>.inl h⟩
 | cons e r ih =>
  intro out
  obtain⟨h1,h2⟩:=ih (ordIn out e)
  refine⟨by rw [List.foldl_cons,h1,ordIn_len];simp;omega,fun x hx=>?_⟩
  rcases h2 x hx with h | h
  ·rcases ordIn_mem h with h | h
   ·exact .inr (by rw [h];exact List.mem_cons_self)
   ·exact .inl h
  ·exact .inr (List.mem_cons_of_mem _ h)
theorem logOrder_len (l:List Entry):(logOrder l).length=l.length:=by
 have:=(ord_fold l []).1
 simpa [logOrder] using this
theorem logOrder_mem {l:List Entry}{x:Entry}(h:x ∈ logOrder l):x ∈ l:=((ord_fold l []).2 x h).resolve_left (by simp)
end Go.Proofs.YtjacjafmimgfcaaGreat
