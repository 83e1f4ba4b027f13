/-
  A region that draws its order and holds operations that change memory: walked in the order of the text. Reads are taken first; what changes memory is met when it alone may come up; what is known of the memory grows on the way.
-/
import Derived.Test.YtlpgopanikikkaaVcE
import Derived.Deep.RegionHeld
namespace Go.Proofs.Ytlpgopanikikkaa
open Go.RowKit

theorem wpAnyH_weak {P : Program} {ops : Array Oper} {Q : Exit → Act → World → Prop} {md : Region.Mode} {S S' : World → Prop} (hs : ∀ w, S' w → S w) : ∀ (fuel : Nat) (listed : Array Bool) (a : Act) (w : World), wpAnyH P md ops Q S' fuel listed a w → wpAnyH P md ops Q S fuel listed a w
  | 0, _, _, _, h => h
  | fuel + 1, _, _, _, h => ⟨h.1, fun i hi => wpOp_mono (fun a' w' h' => ⟨hs w' h'.1, wpAnyH_weak hs fuel _ a' w' h'.2⟩) (h.2 i hi)⟩

section
variable {P : Program} {N B : Nat} {w0 : World} {Q : Exit → Act → World → Prop} {L : List (Nat × Value)} {is js : List It} {ops : Array Oper}

def QB (P : Program) (N B : Nat) (w0 : World) (ops : Array Oper) (Q : Exit → Act → World → Prop) (fuel : Nat) (listed : Array Bool) (L : List (Nat × Value)) (is : List It) : Prop :=
  ∀ w, Mem B w0 is w → ∀ a, Fr N L a → wpAnyH P .any ops Q (fun w => Mem B w0 is w) fuel listed a w

theorem CM_regionB {id n : Nat} {l : List Oper} {listed : Array Bool} (hm : P.follows .mixedOrders = true) (hn : l.length = n) (hl : Array.replicate n false = listed) (h : QB P N B w0 l.toArray Q n listed L is) : CM P N B w0 (.region id l.toArray true) Q L is := fun w hw a ha =>
  wp_region_held_drew (S := fun w => Mem B w0 is w) hm hw.drew fun hS => by
    have := h _ hS a ha
    subst hn; subst hl
    simpa using this
theorem QB_take {fuel : Nat} {listed listed' : Array Bool} (i : Nat) {o : Oper} {d : Nat} {v : Value} (hl : listed.setIfInBounds i true = listed') (hi : ops[i]? = some o) (hs : Region.noSelect ops = true) (hf : Region.free .any ops listed i = true) (hr : (Region.ready .any ops listed).contains i = true)
    (hQ : ∀ c a w, Q (.panic c) (a.put (some d) v) w → Q (.panic c) a w) (hv : ∀ w, Mem B w0 is w → RV P L o w v w) (hw : Wd ops L o true) (hd : o.dst = some d) (hN : d < N)
    (h : QB P N B w0 ops Q fuel listed' ((d, v) :: L) is) : QB P N B w0 ops Q (fuel + 1) listed L is := fun w hm a ha => by
  subst hl
  refine wpAnyH_take hi hs hf hr (fun c a w hq => hQ c a w (by rw [← hd]; exact hq)) (.inl ⟨hw N a ha, fun w hS => hv w hS N a ha⟩) hm ?_
  rw [hd]
  exact h w hm _ (ha.put hN v)
theorem QB_skip {fuel : Nat} {listed listed' : Array Bool} (i : Nat) {o : Oper} {d : Nat} (hl : listed.setIfInBounds i true = listed') (hi : ops[i]? = some o) (hs : Region.noSelect ops = true) (hf : Region.free .any ops listed i = true) (hr : (Region.ready .any ops listed).contains i = true)
    (hQ : ∀ c a w, Q (.panic c) (a.put (some d) undef) w → Q (.panic c) a w) (hw : Wd ops L o false) (hd : o.dst = some d) (hN : d < N)
    (h : QB P N B w0 ops Q fuel listed' ((d, undef) :: L) is) : QB P N B w0 ops Q (fuel + 1) listed L is := fun w hm a ha => by
  subst hl
  refine wpAnyH_take (v := undef) hi hs hf hr (fun c a w hq => hQ c a w (by rw [← hd]; exact hq)) (.inr ⟨hw N a ha, rfl⟩) hm ?_
  rw [hd]
  exact h w hm _ (ha.put hN _)
theorem QB_one {fuel : Nat} {listed listed' : Array Bool} (i : Nat) {o : Oper} (hl : listed.setIfInBounds i true = listed') (hi : ops[i]? = some o) (hr : Region.ready .any ops listed = [i])
    (h : WM P N B w0 ops (Exit.then (fun a w => Mem B w0 is w ∧ wpAnyH P .any ops Q (fun w => Mem B w0 is w) fuel listed' a w) Q) [o] L is) : QB P N B w0 ops Q (fuel + 1) listed L is := fun w hm a ha => by
  subst hl
  refine wpAnyH_all hr (by simp) fun j hj => ?_
  rw [List.mem_singleton] at hj
  subst hj
  have h1 := h w hm a ha
  unfold wpOp
  rw [hi]
  unfold wpList at h1
  dsimp only
  by_cases hwt : Region.wanted o (yielded ops a.tmps) = true
  · rw [if_pos hwt] at h1 ⊢
    rcases h1 with h1 | ⟨h1, h2⟩
    · left
      unfold Oper.wp at h1 ⊢
      generalize (execOp a.eval o).run P w = r at h1 ⊢
      cases r with
      | ok n w' =>
        cases n <;> simp only [Oper.upon] at h1 ⊢ <;>
          first
            | exact h1
            | exact Calls.mono h1 (fun e w'' he => by cases e <;> first | exact he | exact (by obtain ⟨a', w', hh⟩ := he; exact ⟨a', w', hh⟩))
            | exact Rows.mono h1 (fun _ _ he => he)
      | halt x w' => cases x <;> simp only [Oper.upon] at h1 ⊢ <;> exact h1
    · right
      obtain ⟨a', w', hh⟩ := h2
      exact ⟨h1, a', w', hh⟩
  · rw [if_neg hwt] at h1 ⊢
    exact h1
theorem QB_next {fuel : Nat} {listed : Array Bool} (h0 : ∀ w, Mem B w0 js w → Mem B w0 is w) (h : QB P N B w0 ops Q fuel listed L js) :
    QM N B w0 (Exit.then (fun a w => Mem B w0 is w ∧ wpAnyH P .any ops Q (fun w => Mem B w0 is w) fuel listed a w) Q) .normal L js := fun w hm a ha => ⟨h0 w hm, wpAnyH_weak h0 _ _ _ _ (h w hm a ha)⟩
theorem QB_done {listed : Array Bool} (hr : Region.ready .any ops listed = []) (h : QM N B w0 Q .normal L is) : QB P N B w0 ops Q 0 listed L is := fun w hm a ha => ⟨hr, h w hm a ha⟩
/-- What is known of the memory is said in another way. -/
theorem QB_know {γ : Type} {js : γ → List It} {fuel : Nat} {listed : Array Bool} (h1 : ∀ w, Mem B w0 is w → ∃ c, Mem B w0 (js c) w) (h2 : ∀ c w, Mem B w0 (js c) w → Mem B w0 is w) (h : ∀ c, QB P N B w0 ops Q fuel listed L (js c)) : QB P N B w0 ops Q fuel listed L is := fun w hm a ha => by
  obtain ⟨c, hc⟩ := h1 w hm
  exact wpAnyH_weak (h2 c) _ _ _ _ (h c w hc a ha)
theorem CM_formO {α : Type} {E : Ty α} {e : TypeId} {cd : Code} {A : Option Addr} {m c : Nat} {xs : List α} {n : Nat} (hi : is[n]? = some (iOwn (tSl E e) [.slice A m c] xs)) (hp : 0 < m) (h : ∀ g, A = some ⟨g, 0, none⟩ → CM P N B w0 cd Q L is) : CM P N B w0 cd Q L is := fun w hm => by
  obtain ⟨_, ⟨v', ev, cells, L', rfl, hrow, _⟩, _⟩ := hm.get hi
  cases ev
  rcases hrow.2 with ⟨h1, h0⟩ | ⟨g, cap, cur, h1, _⟩
  · cases h1; omega
  · cases h1; exact h g rfl w hm
theorem CM_focus {α : Type} [Inhabited α] {E : Ty α} {e : TypeId} {cd : Code} {A : Option Addr} {n c k : Nat} {xs : List α} (hk : k < n) (hmv : ∀ w, Mem B w0 is w → Mem B w0 (iOwn (tSl E e) [.slice A n c] xs :: js) w)
    (h : ∀ ck, CM P N B w0 cd Q L (iOwn E ck (gt xs k) :: iFoc E e A n c xs k ck :: js)) : CM P N B w0 cd Q L is := fun w hm => by
  have hm' := hmv w hm
  obtain ⟨_, ⟨L1, L2, rfl, h1, h2⟩, h3, h4⟩ := hm'.sep
  obtain ⟨ck, L', s1, s2⟩ := focus_sep hk h1
  exact h ck w ⟨hm.base, hm.below, L' ++ L2, Sep.append s1 h2, (s2.append_right L2).nodup_iff.2 h3, fun b hb => h4 b ((s2.append_right L2).mem_iff.1 hb)⟩
end
end Go.Proofs.Ytlpgopanikikkaa
