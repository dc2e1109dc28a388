/-
A world: List.
-/
import Derived.Test.YtllpffdjlhamkaaWd9
import Derived.Test.YtllpffdjlhamkaaItr
import Derived.Test.YtllpffdjlhamkaaAsc10
set_option linter.unusedVariables false
set_option linter.unusedSimpArgs false
namespace Go.Proofs.Ytllpffdjlhamkaa
open Go.RowKit

/-- A slice of texts. -/
def IsStrs (l : List (List UInt8)) (v : Value) (w : World) : Prop := ∃ A c, v = .slice A l.length c ∧ Rd w A (sc l) ∧ l.length ≤ c
set_option maxRecDepth 100000 in
set_option maxHeartbeats 4000000 in
theorem wList_c (w : World) (o : Ow) (k p : Nat) (s : Wrl) (h : WdAt w o k p s) (hk : Wok s) :
    Calls Try.prog 24 #[.pointer (some ⟨p, 0, none⟩)] w (Ret (IsStrs (listW s)) w) := by
  obtain ⟨mb, pl, hh, hm, hlt, hi, hs⟩ := h.row
  have c0 := hh.c0
  have HH := Lib.hid (fun w' (e : Ext w w') => hh.ext e)
  have HI := Lib.hid (fun w' (e : Ext w w') => World.isM.same hi (e.block mb hlt))
  have hlen := enc_len pl s.L
  have hfew := hk.few
  have hkeys : (enc pl s.L).map (·.1) = s.L.map (·.1) := keys_map (fun k v => entV k (pl k) v) s.L
  have KEYS := Lib.hid hkeys
  clear hkeys
  go_enter Try.func24, Try.ntmps24
  go_wp2_with (first
    | (go_at_call 27; refine (none_no p mb _ c0).mono ?_; rintro e w1 ⟨rfl, hx1⟩; have u0 := (HH.out w1 hx1).c0; obtain ⟨D, hD1, hD2, hD3⟩ := isM_keys (HI.out w1 hx1))
    | (go_at_call 34; refine (mKeys_c _ _).mono ?_; rintro e w2 ⟨rfl, rfl⟩)
    | (go_at_call 33; refine (slSorted_c mb _ D heldR _ hD1 (by rw [hD3]; simp only [maxLen]; omega) (by rw [hD3]; omega)).mono ?_; rintro e w3 ⟨v, rfl, hv, hx3⟩))
  go_ret
  rw [hD2, KEYS.out] at hv
  obtain ⟨A, c, rfl, hc, _, hr, _⟩ := Rd.of_own hv
  exact Ret.mk ⟨A, c, rfl, hr, hc⟩ (by (repeat (first | exact Ext.rfl' _ | assumption | refine Ext.dr ?_ | refine Ext.drN ?_ _ | refine Ext.al ?_ _ | refine Ext.st ?_ (by simp) _ | refine Ext.tr ?_ (by assumption))))
end Go.Proofs.Ytllpffdjlhamkaa
