/-
  Elements that own memory, moved from one list of the call's own into another.
-/
import Derived.Test.YtmikmbmdibabmaaGreatVcW
import Derived.Test.YtmikmbmdibabmaaGreatVcS
namespace Go.Proofs.YtmikmbmdibabmaaGreat
open Go.RowKit

section
variable {α : Type} {E : Ty α} {e : TypeId} {B : Nat} {w0 : World} {is : List It}
/-- Rows of cells of which nothing is asked. -/
def ckA (E : Ty α) : Ck α where
  s := E.sz
  R := fun cs _ => cs.length = E.sz ∧ ∀ u ∈ cs, u.oneCell' = true
  len := fun h => h.1
  one := fun h => h.2
theorem flat_ck {K : Ck α} : Flat (tCk K) := ⟨fun h _ => ⟨rfl, h⟩⟩
theorem els_ck_map {K1 K2 : Ck α} (hR : ∀ cs x, K1.R cs x → K2.R cs x) {w : World} : ∀ {ps : List (List Value × α)} {L : List Nat} {cs : List Value}, Els (tCk K1) w L cs ps → Els (tCk K2) w L cs ps
  | [], _, _, h => h
  | _ :: _, _, _, ⟨L1, L2, c1, c2, e, h, ⟨k1, k2, k3⟩, h2⟩ => ⟨L1, L2, c1, c2, e, h, ⟨k1, k2, hR _ _ k3⟩, els_ck_map hR h2⟩
theorem Mem.ckMap {K1 K2 : Ck α} (hs : K2.s = K1.s) (hR : ∀ cs x, K1.R cs x → K2.R cs x) {w : World} {v : Value} {ps : List (List Value × α)} (h : Mem B w0 (iOwn (tSl (tCk K1) e) [v] ps :: is) w) : Mem B w0 (iOwn (tSl (tCk K2) e) [v] ps :: is) w :=
  h.perm fun L hL => by
    obtain ⟨v', hv, cells, L', rfl, hrow, hels⟩ := hL
    refine ⟨_, ⟨v', hv, cells, L', rfl, ?_, els_ck_map hR hels⟩, .refl _⟩
    have hr : w.ownsRow 0 e K1.s v' ps.length cells := hrow
    rw [← hs] at hr
    exact hr
theorem Mem.toCkA {w : World} {v : Value} {xs : List α} (h : Mem B w0 (iOwn (tSl E e) [v] xs :: is) w) : ∃ ps : List (List Value × α), ps.map Prod.snd = xs ∧ Mem B w0 (iOwn (tSl (tCk (ckA E)) e) [v] ps :: iCk E ps :: is) w := by
  obtain ⟨ps, h1, h2⟩ := h.toCk
  exact ⟨ps, h1, Mem.ckMap (K1 := ckOf E ps) (K2 := ckA E) rfl (fun cs x (hx : (cs, x) ∈ ps ∧ cs.length = E.sz ∧ ∀ u ∈ cs, u.oneCell' = true) => hx.2) h2⟩
theorem EC.append {w : World} : ∀ {ps qs : List (List Value × α)} {L K : List Nat}, EC E w L ps → EC E w K qs → EC E w (L ++ K) (ps ++ qs)
  | [], _, _, _, h, k => by rw [show _ = ([] : List Nat) from h]; exact k
  | p :: ps, _, _, _, ⟨L1, L2, e, h1, h2⟩, k => by subst e; exact ⟨L1, L2 ++ _, by simp, h1, h2.append k⟩
theorem Mem.swap {w : World} {i j : It} (h : Mem B w0 (i :: j :: is) w) : Mem B w0 (j :: i :: is) w := by
  obtain ⟨_, ⟨L1, _, rfl, h1, L2, L3, rfl, h2, h3⟩, h4, h5⟩ := h.sep
  have hp : (L2 ++ (L1 ++ L3)).Perm (L1 ++ (L2 ++ L3)) := by
    rw [← List.append_assoc, ← List.append_assoc]
    exact List.perm_append_comm.append_right L3
  exact ⟨h.base, h.below, L2 ++ (L1 ++ L3), ⟨L2, L1 ++ L3, rfl, h2, L1, L3, rfl, h1, h3⟩, hp.nodup_iff.2 h4, fun b hb => h5 b (hp.mem_iff.1 hb)⟩
theorem CM_toCk {P : Program} {N : Nat} {Q : Exit → Act → World → Prop} {L : List (Nat × Value)} {cd : Code} {v : Value} {xs : List α} {js : List It} (hmv : ∀ w, Mem B w0 is w → Mem B w0 (iOwn (tSl E e) [v] xs :: js) w)
    (h : ∀ ps : List (List Value × α), ps.map Prod.snd = xs → CM P N B w0 cd Q L (iOwn (tSl (tCk (ckA E)) e) [v] ps :: iCk E ps :: js)) : CM P N B w0 cd Q L is := fun w hm => by
  obtain ⟨ps, h1, h2⟩ := (hmv w hm).toCkA
  exact h ps h1 w h2
theorem Mem.emptyAs {β : Type} {F : Ty β} {w : World} {v : Value} (hsz : E.sz = F.sz) (h : Mem B w0 (iOwn (tSl E e) [v] [] :: is) w) : Mem B w0 (iOwn (tSl F e) [v] [] :: is) w := h.perm fun L hL => by
  obtain ⟨v', hv, cells, L', rfl, hrow, hels⟩ := hL
  obtain ⟨rfl, rfl⟩ := hels
  refine ⟨_, ⟨v', hv, [], [], rfl, ?_, rfl, rfl⟩, .refl _⟩
  have hr : w.ownsRow 0 e E.sz v' 0 [] := hrow
  rw [hsz] at hr
  exact hr
end

/-! ### Elements of a list that is seen as rows of cells; rows that are put together anew -/
section
variable {α : Type} [Inhabited α] {E : Ty α} {e : TypeId} {B N : Nat} {w0 : World} {is js : List It} {P : Program} {Q : Exit → Act → World → Prop} {L : List (Nat × Value)} {cd : Code}
theorem take_snoc {ps : List α} {m : Nat} (h : m < ps.length) : List.take m ps ++ [gt ps m] = List.take (m + 1) ps := by
  rw [List.take_add_one, List.getElem?_eq_getElem h, gt_at h]
  rfl
theorem ckPair {ps : List (List Value × α)} {xs : List α} {k : Nat} {K : List Value} (hps : ps.map Prod.snd = xs) (hcs : (gt ps k).1 = K) : (K, gt xs k) = gt ps k := by
  subst hps
  subst hcs
  rw [gt_snd]
theorem ckTake {ps : List (List Value × α)} {xs : List α} {m k : Nat} {K : List Value} (hmk : m = k) (hps : ps.map Prod.snd = xs) (hk : k < xs.length) (hcs : (gt ps k).1 = K) : List.take m ps ++ [(K, gt xs k)] = List.take (m + 1) ps := by
  rw [ckPair hps hcs]
  subst hmk
  subst hps
  rw [List.length_map] at hk
  exact take_snoc hk
end
end Go.Proofs.YtmikmbmdibabmaaGreat

