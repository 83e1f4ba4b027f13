/-
  The stable sort as a call: a list of the call's own, sorted in its place.
-/
import Derived.Test.YtfdaaliffcfjjaaGreatDoorVcV
namespace Go.Proofs.YtfdaaliffcfjjaaGreatDoor
open Go.RowKit

theorem cond_snd {α : Type} (b : Bool) (x y : List (List Value × α)) : (cond b x y).map Prod.snd = cond b (x.map Prod.snd) (y.map Prod.snd) := by cases b <;> rfl
abbrev lt0 {α : Type} (cf : α → α → Int) (x y : α) : Bool := decide (cf x y < 0)
section
variable {α : Type} [Inhabited α]
/-! ### The functions over lists do not look at what they move -/
theorem gt_snd (xs : List (List Value × α)) (i : Nat) : gt (xs.map Prod.snd) i = (gt xs i).2 := by
  unfold gt
  rw [List.getD_eq_getElem?_getD, List.getD_eq_getElem?_getD, List.getElem?_map]
  cases xs[i]? <;> rfl
theorem sw_snd (xs : List (List Value × α)) (i j : Nat) : (sw xs i j).map Prod.snd = sw (xs.map Prod.snd) i j := by
  unfold sw
  rw [List.map_set, List.map_set, gt_snd, gt_snd]
variable (cf : α → α → Int)
theorem ltc_gt (xs : List (List Value × α)) (i j : Nat) : ltc cf (gt xs i) (gt xs j) = lt0 cf (gt (xs.map Prod.snd) i) (gt (xs.map Prod.snd) j) := by
  rw [gt_snd, gt_snd]; rfl
theorem ins1_snd (a : Nat) : ∀ (j : Nat) (xs : List (List Value × α)), (ins1 (ltc cf) a j xs).map Prod.snd = ins1 (lt0 cf) a j (xs.map Prod.snd)
  | 0, _ => rfl
  | j + 1, xs => by rw [ins1, ins1, cond_snd, ltc_gt, ins1_snd a j, sw_snd]
theorem insL_snd (a : Nat) : ∀ (m i : Nat) (xs : List (List Value × α)), (insL (ltc cf) a m i xs).map Prod.snd = insL (lt0 cf) a m i (xs.map Prod.snd)
  | 0, _, _ => rfl
  | m + 1, i, xs => by rw [insL, insL, insL_snd a m, ins1_snd]
theorem mvU_snd : ∀ (n k : Nat) (xs : List (List Value × α)), (mvU n k xs).map Prod.snd = mvU n k (xs.map Prod.snd)
  | 0, _, _ => rfl
  | n + 1, k, xs => by rw [mvU, mvU, mvU_snd n, sw_snd]
theorem mvD_snd : ∀ (n k : Nat) (xs : List (List Value × α)), (mvD n k xs).map Prod.snd = mvD n k (xs.map Prod.snd)
  | 0, _, _ => rfl
  | n + 1, k, xs => by rw [mvD, mvD, mvD_snd n, sw_snd]
theorem swr_snd : ∀ (n a b : Nat) (xs : List (List Value × α)), (swr n a b xs).map Prod.snd = swr n a b (xs.map Prod.snd)
  | 0, _, _, _ => rfl
  | n + 1, a, b, xs => by rw [swr, swr, swr_snd n, sw_snd]
theorem rot_snd : ∀ (f m i j : Nat) (xs : List (List Value × α)), (rot f m i j xs).map Prod.snd = rot f m i j (xs.map Prod.snd)
  | 0, _, _, _, _ => rfl
  | f + 1, m, i, j, xs => by
    rw [rot, rot]
    cases decide (i = j) with
    | true => exact swr_snd _ _ _ _
    | false =>
      cases decide (j < i) with
      | true => show (rot f m (i - j) j (swr j (m - i) m xs)).map Prod.snd = rot f m (i - j) j (swr j (m - i) m (xs.map Prod.snd)); rw [rot_snd f, swr_snd]
      | false => show (rot f m i (j - i) (swr i (m - i) (m + j - i) xs)).map Prod.snd = rot f m i (j - i) (swr i (m - i) (m + j - i) (xs.map Prod.snd)); rw [rot_snd f, swr_snd]
theorem symm_snd : ∀ (f a m b : Nat) (xs : List (List Value × α)), (symm (ltc cf) f a m b xs).map Prod.snd = symm (lt0 cf) f a m b (xs.map Prod.snd)
  | 0, _, _, _, _ => rfl
  | f + 1, a, m, b, xs => by
    rw [symm, symm]
    simp only [ltc_gt, cond_snd, mvU_snd, mvD_snd, symm_snd f, rot_snd]
theorem blk_snd (n : Nat) : ∀ (f a : Nat) (xs : List (List Value × α)), (blk (ltc cf) n f a xs).map Prod.snd = blk (lt0 cf) n f a (xs.map Prod.snd)
  | 0, _, _ => insL_snd cf _ _ _ _
  | f + 1, a, xs => by rw [blk, blk, cond_snd, blk_snd n f, insL_snd, insL_snd]
theorem mrg_snd (n w : Nat) : ∀ (f a : Nat) (xs : List (List Value × α)), (mrg (ltc cf) n w f a xs).map Prod.snd = mrg (lt0 cf) n w f a (xs.map Prod.snd)
  | 0, _, _ => rfl
  | f + 1, a, xs => by rw [mrg, mrg, cond_snd, cond_snd, mrg_snd n w f, symm_snd, symm_snd]
theorem mlev_snd (n : Nat) : ∀ (f w : Nat) (xs : List (List Value × α)), (mlev (ltc cf) n f w xs).map Prod.snd = mlev (lt0 cf) n f w (xs.map Prod.snd)
  | 0, _, _ => rfl
  | f + 1, w, xs => by rw [mlev, mlev, cond_snd, mlev_snd n f, mrg_snd]
end

theorem Ord.ltc {α : Type} {cf : α → α → Int} (o : Ord (lt0 cf)) : Ord (ltc cf : List Value × α → List Value × α → Bool) := ⟨fun x y => o.asym x.2 y.2, fun x y z => o.tr x.2 y.2 z.2⟩

/-! ### A list of the call's own, as rows of cells and what they own -/
section
variable {α : Type} {E : Ty α} {e : TypeId} {B : Nat} {w0 : World} {is : List It}
def EC (E : Ty α) (w : World) : List Nat → List (List Value × α) → Prop
  | L, [] => L = []
  | L, p :: ps => ∃ L1 L2, L = L1 ++ L2 ∧ E.own w L1 p.1 p.2 ∧ EC E w L2 ps
theorem EC.keep {w w' : World} : ∀ {ps : List (List Value × α)} {L : List Nat}, EC E w L ps → (∀ b ∈ L, w'.heap[b]? = w.heap[b]?) → EC E w' L ps
  | [], _, h, _ => h
  | p :: ps, _, ⟨L1, L2, e, h1, h2⟩, hk => by
    subst e
    exact ⟨L1, L2, rfl, E.own_keep h1 fun b hb => hk b (List.mem_append_left _ hb), EC.keep h2 fun b hb => hk b (List.mem_append_right _ hb)⟩
theorem EC.lt {w : World} : ∀ {ps : List (List Value × α)} {L : List Nat}, EC E w L ps → ∀ b ∈ L, b < w.heap.size
  | [], _, h => by rw [show _ = ([] : List Nat) from h]; simp
  | p :: ps, _, ⟨L1, L2, e, h1, h2⟩ => by
    subst e
    intro b hb
    rcases List.mem_append.1 hb with h | h
    · exact E.own_lt h1 b h
    · exact EC.lt h2 b h
def iCk (E : Ty α) (ps : List (List Value × α)) : It := ⟨fun w L => EC E w L ps, EC.keep, EC.lt⟩
theorem EC.perm {w : World} {ps qs : List (List Value × α)} (hp : ps.Perm qs) : ∀ {L : List Nat}, EC E w L ps → ∃ L', L'.Perm L ∧ EC E w L' qs := by
  induction hp with
  | nil => exact fun h => ⟨_, .refl _, h⟩
  | cons p _ ih =>
    rintro _ ⟨L1, L2, rfl, h1, h2⟩
    obtain ⟨L', k1, k2⟩ := ih h2
    exact ⟨L1 ++ L', k1.append_left L1, L1, L', rfl, h1, k2⟩
  | swap p q l =>
    rintro _ ⟨L1, _, rfl, h1, L2, L3, rfl, h2, h3⟩
    refine ⟨L2 ++ (L1 ++ L3), ?_, L2, L1 ++ L3, rfl, h2, L1, L3, rfl, h1, h3⟩
    rw [← List.append_assoc, ← List.append_assoc]
    exact List.perm_append_comm.append_right L3
  | trans _ _ ih1 ih2 =>
    intro L h
    obtain ⟨L1, k1, k2⟩ := ih1 h
    obtain ⟨L2, k3, k4⟩ := ih2 k2
    exact ⟨L2, k3.trans k1, k4⟩
theorem EC.els {w : World} : ∀ {ps : List (List Value × α)} {L : List Nat}, EC E w L ps → Els E w L (ps.map Prod.fst).flatten (ps.map Prod.snd)
  | [], _, h => ⟨h, rfl⟩
  | p :: ps, _, ⟨L1, L2, e, h1, h2⟩ => ⟨L1, L2, p.1, (ps.map Prod.fst).flatten, e, rfl, h1, h2.els⟩
theorem EC.of {w : World} : ∀ {xs : List α} {L : List Nat} {cs : List Value}, Els E w L cs xs → ∃ ps : List (List Value × α), ps.map Prod.snd = xs ∧ (ps.map Prod.fst).flatten = cs ∧ EC E w L ps
  | [], _, _, ⟨h1, h2⟩ => ⟨[], rfl, h2.symm, h1⟩
  | x :: xs, _, _, ⟨L1, L2, c1, c2, e, h, h1, h2⟩ => by
    obtain ⟨ps, k1, k2, k3⟩ := EC.of h2
    exact ⟨(c1, x) :: ps, by simp [k1], by simp [k2, h], L1, L2, e, h1, k3⟩
theorem EC.mem {w : World} : ∀ {ps : List (List Value × α)} {L : List Nat}, EC E w L ps → ∀ p ∈ ps, ∃ L1, (∀ b ∈ L1, b ∈ L) ∧ E.own w L1 p.1 p.2
  | [], _, _, p, hp => by cases hp
  | q :: ps, _, ⟨L1, L2, e, h1, h2⟩, p, hp => by
    subst e
    rcases List.mem_cons.1 hp with rfl | hp
    · exact ⟨L1, fun b hb => List.mem_append_left _ hb, h1⟩
    · obtain ⟨L3, k1, k2⟩ := EC.mem h2 p hp
      exact ⟨L3, fun b hb => List.mem_append_right _ (k1 b hb), k2⟩
theorem els_ck {K : Ck α} {w : World} : ∀ {ps : List (List Value × α)}, (∀ p ∈ ps, K.R p.1 p.2) → Els (tCk K) w [] (ps.map Prod.fst).flatten ps
  | [], _ => ⟨rfl, rfl⟩
  | p :: ps, h => ⟨[], [], p.1, (ps.map Prod.fst).flatten, rfl, rfl, ⟨rfl, rfl, h p (by simp)⟩, els_ck fun q hq => h q (List.mem_cons_of_mem _ hq)⟩
theorem els_ck_of {K : Ck α} {w : World} : ∀ {ps : List (List Value × α)} {L : List Nat} {cs : List Value}, Els (tCk K) w L cs ps → L = [] ∧ cs = (ps.map Prod.fst).flatten
  | [], _, _, ⟨h1, h2⟩ => ⟨h1, h2⟩
  | p :: ps, _, _, ⟨L1, L2, c1, c2, e, h, ⟨k1, k2, _⟩, h2⟩ => by
    obtain ⟨k3, k4⟩ := els_ck_of h2
    subst e; subst h; subst k1; subst k3; subst k2; subst k4
    exact ⟨rfl, rfl⟩
/-- The cells and what they stand for: those of a fixed list. -/
def ckOf (E : Ty α) (ps : List (List Value × α)) : Ck α where
  s := E.sz
  R := fun cs x => (cs, x) ∈ ps ∧ cs.length = E.sz ∧ ∀ u ∈ cs, u.oneCell' = true
  len := fun h => h.2.1
  one := fun h => h.2.2
theorem Mem.toCk {w : World} {v : Value} {xs : List α} (h : Mem B w0 (iOwn (tSl E e) [v] xs :: is) w) : ∃ ps : List (List Value × α), ps.map Prod.snd = xs ∧ Mem B w0 (iOwn (tSl (tCk (ckOf E ps)) e) [v] ps :: iCk E ps :: is) w := by
  obtain ⟨_, ⟨L1, L2, rfl, ⟨v', hv, cells, L', rfl, hrow, hels⟩, h2⟩, h3, h4⟩ := h.sep
  cases hv
  obtain ⟨ps, k1, k2, k3⟩ := EC.of hels
  subst k1
  subst k2
  refine ⟨ps, rfl, h.base, h.below, (v.ownBlock.toList ++ []) ++ (L' ++ L2), ⟨v.ownBlock.toList ++ [], L' ++ L2, rfl, ⟨v, rfl, (ps.map Prod.fst).flatten, [], rfl, ?_, els_ck fun p hp => ?_⟩, L', L2, rfl, k3, h2⟩, ?_, ?_⟩
  · have hr : w.ownsRow 0 e E.sz v (ps.map Prod.snd).length (ps.map Prod.fst).flatten := hrow
    rw [List.length_map] at hr
    exact hr
  · obtain ⟨Lp, _, ho⟩ := EC.mem k3 p hp
    exact ⟨hp, E.own_len ho, E.own_one ho⟩
  · rw [List.append_nil, ← List.append_assoc]; exact h3
  · rw [List.append_nil, ← List.append_assoc]; exact h4
theorem Mem.ofCk {w : World} {K : Ck α} {v : Value} {ps qs : List (List Value × α)} (hs : K.s = E.sz) (hp : qs.Perm ps) (h : Mem B w0 (iOwn (tSl (tCk K) e) [v] qs :: iCk E ps :: is) w) : Mem B w0 (iOwn (tSl E e) [v] (qs.map Prod.snd) :: is) w := by
  obtain ⟨_, ⟨L1, _, rfl, ⟨v', hv, cells, L', rfl, hrow, hels⟩, L2, L3, rfl, hec, h2⟩, h3, h4⟩ := h.sep
  cases hv
  obtain ⟨rfl, rfl⟩ := els_ck_of hels
  obtain ⟨L4, k1, k2⟩ := EC.perm hp.symm hec
  rw [List.append_nil] at h3 h4
  have hperm : ((v.ownBlock.toList ++ L4) ++ L3).Perm (v.ownBlock.toList ++ (L2 ++ L3)) := by
    rw [List.append_assoc]
    exact (k1.append_right L3).append_left _
  refine ⟨h.base, h.below, (v.ownBlock.toList ++ L4) ++ L3, ⟨v.ownBlock.toList ++ L4, L3, rfl, ⟨v, rfl, (qs.map Prod.fst).flatten, L4, rfl, ?_, k2.els⟩, h2⟩, hperm.nodup_iff.2 h3, fun b hb => h4 b (hperm.mem_iff.1 hb)⟩
  have hr : w.ownsRow 0 e K.s v qs.length (qs.map Prod.fst).flatten := hrow
  rw [hs] at hr
  rw [List.length_map]
  exact hr
theorem Mem.ckRd {w : World} {ps : List (List Value × α)} (h : Mem B w0 (iCk E ps :: is) w) {cs : List Value} {x : α} (hx : (cs, x) ∈ ps) : E.rd w w.heap.size cs x := by
  obtain ⟨L, h1, _, h3⟩ := h.get (n := 0) rfl
  obtain ⟨L1, k1, k2⟩ := EC.mem (w := w) h1 _ hx
  exact E.own_rd k2 fun b hb => (h3 b (k1 b hb)).2
/-- The call of the library's stable sort. -/
theorem WM_sort [Inhabited α] {P : Program} {N : Nat} {Q : Exit → Act → World → Prop} {L : List (Nat × Value)} {ops : Array Oper} {rest : List Oper} {fS fc : FuncId} {fo : Callee} {xo : Array Operand} {A : Option Addr} {n c : Nat} {xs : List α} {cf : α → α → Int} {js : List It} {d : Nat} {ts : Array TypeId} {ty : TypeId} {pos : String} {af : Array Edge} {g : Option (Nat × Bool)}
    (ho : Ord (lt0 cf)) (hmv : ∀ w, Mem B w0 is w → Mem B w0 (iOwn (tSl E e) [.slice A n c] xs :: js) w) (hn : n = xs.length) (hcb : Cb P fc) (hcl : Cl P L fo xo fS #[.slice A n c, .func (.func fc) #[] #[]])
    (hcmp : ∀ (w : World) (cs ds : List Value) (x y : α), E.rd w w.heap.size cs x → E.rd w w.heap.size ds y → Calls P fc #[.agg cs.toArray, .agg ds.toArray] w fun e w' => e = .returned (.int .i64 (cf x y)) ∧ Below w.heap.size w w')
    (hsort : ∀ (K : Ck α) (_ : K.s = E.sz) (is : List It) (_ : CmpOk P fc K B w0 is cf) (ps : List (List Value × α)) (w : World), Mem B w0 (iOwn (tSl (tCk K) e) [.slice A n c] ps :: is) w →
      Calls P fS #[.slice A n c, .func (.func fc) #[] #[]] w fun e' w' => e' = .returned (.tuple #[]) ∧ Mem B w0 (iOwn (tSl (tCk K) e) [.slice A n c] (mlev (ltc cf) n (n + 1) 20 (blk (ltc cf) n (n + 1) 0 ps)) :: is) w')
    (hw : Wd ops L ⟨some d, .call ⟨fo, xo, ts⟩, ty, pos, af, g⟩ true) (hN : d < N)
    (h : WM P N B w0 ops Q rest ((d, .tuple #[]) :: L) (iOwn (tSl E e) [.slice A n c] (stb (lt0 cf) xs) :: js)) : WM P N B w0 ops Q (⟨some d, .call ⟨fo, xo, ts⟩, ty, pos, af, g⟩ :: rest) L is := by
  refine WM_callW (χ := Unit) (val := fun _ => .tuple #[]) (js := fun _ => iOwn (tSl E e) [.slice A n c] (stb (lt0 cf) xs) :: js) hcl (fun w hm => ?_) hw hN (fun _ => h)
  obtain ⟨ps, k1, k2⟩ := (hmv w hm).toCk
  subst k1
  rw [List.length_map] at hn
  subst hn
  refine (hsort (ckOf E ps) rfl (iCk E ps :: js) ⟨hcb, fun w x y hm hx hy => hcmp w x.1 y.1 x.2 y.2 (hm.ckRd hx.1) (hm.ckRd hy.1)⟩ ps w k2).mono ?_
  rintro e' w' ⟨rfl, h2⟩
  refine ⟨(), rfl, ?_⟩
  have hst := stb_ok ho.ltc ps
  have e1 : (stb (ltc cf) ps).map Prod.snd = stb (lt0 cf) (ps.map Prod.snd) := by
    unfold stb
    rw [mlev_snd, blk_snd, List.length_map]
  have h3 := Mem.ofCk (E := E) (K := ckOf E ps) (qs := stb (ltc cf) ps) rfl hst.1 h2
  rw [e1] at h3
  exact h3
end
theorem ord_of {α : Type} {lt : α → α → Bool} {R : α → α → Prop} (h : ∀ x y, lt x y = true ↔ R x y) (ha : ∀ x y, R x y → ¬ R y x) (ht : ∀ x y z, ¬ R y x → ¬ R z y → ¬ R z x) : Ord lt :=
  have f : ∀ x y, lt x y = false ↔ ¬ R x y := fun x y => by rw [← h, Bool.not_eq_true]
  ⟨fun x y hx => (f _ _).2 (ha x y ((h _ _).1 hx)), fun x y z h1 h2 => (f _ _).2 (ht x y z ((f _ _).1 h1) ((f _ _).1 h2))⟩
/-- Two lists in strict order that hold the same are the same. -/
theorem strict_eq {α : Type} {R : α → α → Prop} (ha : ∀ x y, R x y → ¬ R y x) (ht : ∀ x y z, R x y → R y z → R x z) : ∀ {xs ys : List α}, xs.Pairwise R → ys.Pairwise R → (∀ z, z ∈ xs ↔ z ∈ ys) → xs = ys
  | [], [], _, _, _ => rfl
  | [], y :: ys, _, _, h => by have := (h y).2 (by simp); cases this
  | x :: xs, [], _, _, h => by have := (h x).1 (by simp); cases this
  | x :: xs, y :: ys, hx, hy, h => by
    rw [List.pairwise_cons] at hx hy
    have irr : ∀ z, ¬ R z z := fun z hz => ha z z hz hz
    have e : x = y := by
      rcases List.mem_cons.1 ((h x).1 (by simp)) with e | hm
      · exact e
      · rcases List.mem_cons.1 ((h y).2 (by simp)) with e | hm2
        · exact e.symm
        · exact absurd (hy.1 x hm) (ha _ _ (hx.1 y hm2))
    subst e
    congr 1
    refine strict_eq ha ht hx.2 hy.2 fun z => ⟨fun hz => ?_, fun hz => ?_⟩
    · rcases List.mem_cons.1 ((h z).1 (List.mem_cons_of_mem _ hz)) with e | hm
      · subst e; exact absurd (hx.1 _ hz) (irr _)
      · exact hm
    · rcases List.mem_cons.1 ((h z).2 (List.mem_cons_of_mem _ hz)) with e | hm
      · subst e; exact absurd (hy.1 _ hz) (irr _)
      · exact hm
/-- Numbers in order, compared as lists. -/
def lexI : List Int → List Int → Int
  | [], [] => 0
  | [], _ :: _ => -1
  | _ :: _, [] => 1
  | x :: xs, y :: ys => if x < y then -1 else if y < x then 1 else lexI xs ys
theorem lexI_neg : ∀ xs ys, lexI xs ys < 0 → 0 < lexI ys xs
  | [], [], h => by simp [lexI] at h
  | [], _ :: _, _ => by simp [lexI]
  | _ :: _, [], h => by simp [lexI] at h
  | x :: xs, y :: ys, h => by
    rw [lexI] at h ⊢
    by_cases h1 : x < y
    · rw [if_neg (by omega), if_pos h1]; omega
    · rw [if_neg h1] at h
      by_cases h2 : y < x
      · rw [if_pos h2] at h; omega
      · rw [if_neg h2] at h
        rw [if_neg h2, if_neg h1]; exact lexI_neg xs ys h
theorem lexI_pos : ∀ xs ys, 0 < lexI xs ys → lexI ys xs < 0
  | [], [], h => by simp [lexI] at h
  | [], _ :: _, h => by simp [lexI] at h
  | _ :: _, [], _ => by simp [lexI]
  | x :: xs, y :: ys, h => by
    rw [lexI] at h ⊢
    by_cases h1 : x < y
    · rw [if_pos h1] at h; omega
    · rw [if_neg h1] at h
      by_cases h2 : y < x
      · rw [if_pos h2]; omega
      · rw [if_neg h2] at h
        rw [if_neg h2, if_neg h1]; exact lexI_pos xs ys h
theorem lexI_tr : ∀ xs ys zs, 0 ≤ lexI ys xs → 0 ≤ lexI zs ys → 0 ≤ lexI zs xs
  | [], _, [], _, _ => by simp [lexI]
  | [], _, _ :: _, _, _ => by simp [lexI]
  | _ :: _, [], _, h, _ => by simp [lexI] at h
  | _ :: _, _ :: _, [], _, h => by simp [lexI] at h
  | x :: xs, y :: ys, z :: zs, h1, h2 => by
    rw [lexI] at h1 h2 ⊢
    by_cases a : y < x
    · rw [if_pos a] at h1; omega
    · by_cases b : z < y
      · rw [if_pos b] at h2; omega
      · rw [if_neg a] at h1
        rw [if_neg b] at h2
        by_cases c : z < x
        · omega
        · rw [if_neg c]
          by_cases d : x < z
          · rw [if_pos d]; omega
          · rw [if_neg d]
            rw [if_neg (by omega)] at h1 h2
            exact lexI_tr xs ys zs h1 h2
theorem lexI_eq : ∀ xs ys, lexI xs ys = 0 → xs = ys
  | [], [], _ => rfl
  | [], _ :: _, h => by simp [lexI] at h
  | _ :: _, [], h => by simp [lexI] at h
  | x :: xs, y :: ys, h => by
    rw [lexI] at h
    by_cases h1 : x < y
    · rw [if_pos h1] at h; omega
    · rw [if_neg h1] at h
      by_cases h2 : y < x
      · rw [if_pos h2] at h; omega
      · rw [if_neg h2] at h
        rw [lexI_eq xs ys h, show x = y by omega]
end Go.Proofs.YtfdaaliffcfjjaaGreatDoor
