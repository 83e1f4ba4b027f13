/-
  Calls that write through a pointer.
-/
import Derived.Test.YtfdaaliffcfjjaaGreatDoorVcX
import Derived.Test.YtfdaaliffcfjjaaGreatDoorVcY
namespace Go.Proofs.YtfdaaliffcfjjaaGreatDoor
open Go.RowKit

section
variable {P : Program} {N B : Nat} {w0 : World} {Q : Exit → Act → World → Prop} {L : List (Nat × Value)} {is : List It}
/-- A call whose value is not kept, and that writes into items that it is given. -/
theorem WM_callW0 {ops : Array Oper} {rest : List Oper} {f : FuncId} {fo : Callee} {xs : Array Operand} {args : Array Value} {ts : Array TypeId} {ty : TypeId} {pos : String} {af : Array Edge} {g : Option (Nat × Bool)} {χ : Type} {val : χ → Value} {js : χ → List It}
    (hcl : Cl P L fo xs f args)
    (hc : ∀ w, Mem B w0 is w → Calls P f args w fun e w' => ∃ x : χ, e = .returned (val x) ∧ Mem B w0 (js x) w')
    (hw : Wd ops L ⟨none, .call ⟨fo, xs, ts⟩, ty, pos, af, g⟩ true)
    (h : ∀ x, WM P N B w0 ops Q rest L (js x)) : WM P N B w0 ops Q (⟨none, .call ⟨fo, xs, ts⟩, ty, pos, af, g⟩ :: rest) L is := by
  intro w hm a ha
  refine wpList_step fun K hK => ?_
  rw [if_pos (hw N a ha)]
  unfold Oper.wp
  rw [hcl.go ha, Oper.upon_enter]
  refine (hc w hm).mono ?_
  rintro e w' ⟨x, rfl, hm'⟩
  exact hK _ _ (h x w' hm' _ ha)
theorem rv_nilCheck {x : Operand} {A : Addr} {w : World} {d : Option Nat} {ty : TypeId} {pos : String} {af : Array Edge} {g : Option (Nat × Bool)} (hx : ev L x = some (.pointer (some A))) : RV P L ⟨d, .nilCheck x, ty, pos, af, g⟩ w (.pointer (some A)) w := fun N a ha => by
  have e0 := ha.eval hx; generalize a.eval = ρ at e0 ⊢; simp [execOp, e0, go_sem]
end
section
variable {α : Type} {P : Program} {N B : Nat} {w0 : World} {Q : Exit → Act → World → Prop} {L : List (Nat × Value)} {is : List It} {E : Ty α} {e : TypeId}
/-- A list made of as many elements as an integer says that is no negative one. -/
theorem WM_makeZ {ops : Array Oper} {rest : List Oper} {x y : Operand} {t d : Nat} {q : Int} {i : TypeInfo} {z : Value} {x0 : α} {ty : TypeId} {pos : String} {af : Array Edge} {g : Option (Nat × Bool)}
    (ht : P.underlying t = some (.slice e)) (hi : P.info? e = some i) (hz : i.zero = some z) (hs : i.size = E.sz) (hzs : z.cells.size = E.sz) (hz0 : ∀ w, E.own w [] z.cells.toList x0)
    (h0 : 0 ≤ q) (hx : ev L x = some (.int .i64 q)) (hy : ev L y = some (.int .i64 q)) (hb : q.toNat * i.bytes ≤ 281474976710656) (h63 : q.toNat ≤ 9223372036854775807)
    (hw : Wd ops L ⟨some d, .makeSlice t x y, ty, pos, af, g⟩ true) (hN : d < N)
    (h : ∀ p, WM P N B w0 ops Q rest ((d, .slice (some ⟨p, 0, none⟩) q.toNat q.toNat) :: L) (iOwn (tSl E e) [.slice (some ⟨p, 0, none⟩) q.toNat q.toNat] (List.replicate q.toNat x0) :: is)) : WM P N B w0 ops Q (⟨some d, .makeSlice t x y, ty, pos, af, g⟩ :: rest) L is :=
  WM_make (n := q.toNat) ht hi hz hs hzs hz0 (by rw [Int.toNat_of_nonneg h0]; exact hx) (by rw [Int.toNat_of_nonneg h0]; exact hy) hb h63 hw hN h
end
/-! ### A part of a list cut out in its own place -/
section
variable {α : Type} {E : Ty α} {e : TypeId} {B : Nat} {w0 : World} {is js : List It}
theorem EC.dropN {w : World} : ∀ {ps : List (List Value × α)} {L : List Nat} (k : Nat), EC E w L ps → ∃ L' M, (L' ++ M).Perm L ∧ EC E w L' (ps.drop k)
  | _, L, 0, h => ⟨L, [], by rw [List.append_nil], h⟩
  | [], L, _ + 1, h => ⟨L, [], by rw [List.append_nil], h⟩
  | p :: ps, _, k + 1, ⟨L1, L2, e, h1, h2⟩ => by
    subst e
    obtain ⟨L', M, k1, k2⟩ := EC.dropN k h2
    refine ⟨L', L1 ++ M, ?_, k2⟩
    rw [← List.append_assoc]
    refine (List.perm_append_comm.append_right M).trans ?_
    rw [List.append_assoc]
    exact k1.append_left L1
theorem EC.cut {w : World} : ∀ {ps : List (List Value × α)} {L : List Nat} (k k2 : Nat), k ≤ k2 → EC E w L ps → ∃ L' M, (L' ++ M).Perm L ∧ EC E w L' (ps.take k ++ ps.drop k2)
  | ps, L, 0, k2, _, h => EC.dropN k2 h
  | [], L, k + 1, k2, _, h => ⟨L, [], by rw [List.append_nil], by rw [List.take_nil, List.drop_nil]; exact h⟩
  | p :: ps, _, k + 1, 0, hk, _ => absurd hk (by omega)
  | p :: ps, _, k + 1, k2 + 1, hk, ⟨L1, L2, e, h1, h2⟩ => by
    subst e
    obtain ⟨L', M, k1, h3⟩ := EC.cut k k2 (by omega) h2
    refine ⟨L1 ++ L', M, ?_, L1, L', rfl, h1, h3⟩
    rw [List.append_assoc]
    exact k1.append_left L1
theorem Mem.ckErase {w : World} {v : Value} {ps : List (List Value × α)} {xs : List α} {k k2 : Nat} (hk : k ≤ k2) (hps : ps.map Prod.snd = xs)
    (h : Mem B w0 (iOwn (tSl (tCk (ckA E)) e) [v] (List.take k ps ++ List.drop k2 ps) :: iCk E ps :: is) w) : Mem B w0 (iOwn (tSl E e) [v] (List.take k xs ++ List.drop k2 xs) :: is) w := by
  obtain ⟨_, ⟨L1, _, rfl, h1, L2, L3, rfl, h2, h3⟩, h4, h5⟩ := h.sep
  obtain ⟨L', M, hp, hec⟩ := EC.cut k k2 hk (show EC E w L2 ps from h2)
  have hq : (L1 ++ ((L' ++ M) ++ L3)).Perm (L1 ++ (L2 ++ L3)) := (hp.append_right L3).append_left L1
  have hs : List.Sublist (L1 ++ (L' ++ L3)) (L1 ++ ((L' ++ M) ++ L3)) := ((List.sublist_append_left L' M).append_right L3).append_left L1
  have hm : Mem B w0 (iOwn (tSl (tCk (ckA E)) e) [v] (List.take k ps ++ List.drop k2 ps) :: iCk E (List.take k ps ++ List.drop k2 ps) :: is) w :=
    ⟨h.base, h.below, _, ⟨L1, _, rfl, h1, L', L3, rfl, hec, h3⟩, (hq.nodup_iff.2 h4).sublist hs, fun b hb => h5 b (hq.mem_iff.1 (hs.subset hb))⟩
  have h6 := Mem.ofCk (E := E) (K := ckA E) rfl (.refl _) hm
  rw [List.map_append, List.map_take, List.map_drop, hps] at h6
  exact h6
theorem els_ck_R {K : Ck α} {w : World} : ∀ {ps : List (List Value × α)} {L : List Nat} {cs : List Value}, Els (tCk K) w L cs ps → ∀ p ∈ ps, K.R p.1 p.2
  | [], _, _, _, p, hp => by cases hp
  | q :: ps, _, _, ⟨_, _, _, _, _, _, ⟨_, k2, k3⟩, h2⟩, p, hp => by
    rcases List.mem_cons.1 hp with rfl | hp
    · exact k3
    · exact els_ck_R h2 p hp
theorem Mem.ckTake {K : Ck α} {w : World} {A : Option Addr} {n c k : Nat} {ps : List (List Value × α)} (hk : k ≤ n) (h : Mem B w0 (iOwn (tSl (tCk K) e) [.slice A n c] ps :: is) w) : Mem B w0 (iOwn (tSl (tCk K) e) [.slice A k c] (List.take k ps) :: is) w :=
  h.perm fun L hL => by
    obtain ⟨v', hv, cells, L', rfl, hrow, hels⟩ := hL
    cases hv
    have hR := els_ck_R hels
    obtain ⟨rfl, rfl⟩ := els_ck_of hels
    have hels2 : Els (tCk K) w [] ((List.take k ps).map Prod.fst).flatten (List.take k ps) := els_ck fun p hp => hR p (List.mem_of_mem_take hp)
    have hrow' : w.ownsRow 0 e K.s (.slice A n c) ps.length (ps.map Prod.fst).flatten := hrow
    have hl2 : ((List.take k ps).map Prod.fst).flatten.length = (List.take k ps).length * K.s := hels2.len
    have hspl : (ps.map Prod.fst).flatten = ((List.take k ps).map Prod.fst).flatten ++ ((List.drop k ps).map Prod.fst).flatten := by
      rw [← List.flatten_append, ← List.map_append, List.take_append_drop]
    refine ⟨_, ⟨.slice A k c, rfl, ((List.take k ps).map Prod.fst).flatten, [], rfl, ⟨hl2, ?_⟩, hels2⟩, by cases A <;> exact .refl _⟩
    rcases hrow'.2 with ⟨e1, e2⟩ | ⟨g, cap, cur, e1, hb, hg, hn, hm, hz, ht⟩
    · cases e1
      have hk0 : k = 0 := by omega
      subst hk0
      exact .inl ⟨rfl, rfl⟩
    · cases e1
      have hl : (List.take k ps).length = k := by rw [List.length_take]; omega
      refine .inr ⟨g, c, cur, by rw [hl], hb, hg, by rw [hl]; omega, hm, hz, ?_⟩
      have h3 := congrArg (List.take ((List.take k ps).length * K.s)) ht
      rw [List.take_take, hspl, ← hl2, List.take_left, Nat.min_eq_left] at h3
      · show List.take ((List.take k ps).length * K.s) cur.toList = _
        rw [← hl2]; exact h3
      · rw [hl2, hl]; exact Nat.mul_le_mul_right _ hk
end
section
variable {P : Program} {N B : Nat} {w0 : World} {Q : Exit → Act → World → Prop} {L : List (Nat × Value)} {is : List It}
theorem rv_sliceHiI {x y : Operand} {A : Option Addr} {n c t e : Nat} {k : Int} {info : TypeInfo} {w : World} {d : Option Nat} {ty : TypeId} {pos : String} {af : Array Edge} {g : Option (Nat × Bool)} (ht : P.underlying t = some (.slice e)) (hi : P.info? e = some info)
    (hx : ev L x = some (.slice A n c)) (hy : ev L y = some (.int .i64 k)) (h0 : 0 ≤ k) (hk : k.toNat ≤ c) : RV P L ⟨d, .slice t x none (some y) none, ty, pos, af, g⟩ w (.slice A k.toNat c) w := rv_sliceHi ht hi hx (by rw [hy, Int.toNat_of_nonneg h0]) hk
theorem rv_sliceLoI {x y : Operand} {A : Option Addr} {n c t e s : Nat} {k : Int} {w : World} {info : TypeInfo} {d : Option Nat} {ty : TypeId} {pos : String} {af : Array Edge} {g : Option (Nat × Bool)} (ht : P.underlying t = some (.slice e)) (hi : P.info? e = some info) (hs : info.size = s)
    (hx : ev L x = some (.slice A n c)) (hy : ev L y = some (.int .i64 k)) (h0 : 0 ≤ k) (hk : k.toNat ≤ n) : RV P L ⟨d, .slice t x (some y) none none, ty, pos, af, g⟩ w (.slice (offA A c k.toNat s) (n - k.toNat) (c - k.toNat)) w := rv_sliceLo ht hi hs hx (by rw [hy, Int.toNat_of_nonneg h0]) hk
theorem CM_cap {α : Type} {T : Ty α} {e : TypeId} {cd : Code} {A : Option Addr} {n c i : Nat} {xs : List α} (hi : is[i]? = some (iOwn (tSl T e) [.slice A n c] xs)) (h : n ≤ c → CM P N B w0 cd Q L is) : CM P N B w0 cd Q L is := fun w hm => h (rdS_cap (hm.rdSI hi)) w hm
theorem WM_cap {α : Type} {T : Ty α} {e : TypeId} {ops : Array Oper} {l : List Oper} {A : Option Addr} {n c i : Nat} {xs : List α} (hi : is[i]? = some (iOwn (tSl T e) [.slice A n c] xs)) (h : n ≤ c → WM P N B w0 ops Q l L is) : WM P N B w0 ops Q l L is := fun w hm => h (rdS_cap (hm.rdSI hi)) w hm
end
/-! ### Bytes, and operations on bits -/
def tU8 : Ty Int := tFlat (fun v n => v = .int .u8 n) (by rintro _ _ rfl; rfl)
theorem rdS_u8 {B : Nat} {w : World} {xs : List Int} {a : Addr} (h : ∀ j x, xs[j]? = some x → ∃ c', tU8.rd w B c' x ∧ ∀ o u, c'[o]? = some u → w.cell? ((a.add (j * tU8.sz)).add o) = some u) :
    ∀ j, j < xs.length → w.cell? (a.add (j * 1)) = some (.int .u8 (gt xs j)) := fun j hj => by
  obtain ⟨c', ⟨_, rfl, rfl⟩, hc⟩ := h j _ (gt_some hj)
  exact hc 0 _ rfl
section
variable {P : Program} {L : List (Nat × Value)} {w : World} {d : Option Nat} {ty : TypeId} {pos : String} {af : Array Edge} {g : Option (Nat × Bool)}
theorem rv_conv8 {x : Operand} {p : Int} {t t2 : TypeId} (h1 : P.underlying t = some (.int .u8)) (h2 : P.underlying t2 = some (.int .i64)) (hx : ev L x = some (.int .u8 p)) :
    RV P L ⟨d, .convert t t2 x, ty, pos, af, g⟩ w (.int .i64 (IntKind.i64.wrap p)) w := fun N a ha => by
  have e0 := ha.eval hx; generalize a.eval = ρ at e0 ⊢; simp [execOp, e0, convert, run_underlying h1, run_underlying h2, Conv.intToInt]
theorem rv_and {x y : Operand} {p q : Int} {t t2 : TypeId} (hx : ev L x = some (.int .i64 p)) (hy : ev L y = some (.int .i64 q)) : RV P L ⟨d, .binOp .and t x y t2, ty, pos, af, g⟩ w (.int .i64 (bits .and .i64 p q)) w := fun N a ha => by
  have e0 := ha.eval hx; have e1 := ha.eval hy; generalize a.eval = ρ at e0 e1 ⊢; simp [execOp, e0, e1, go_sem]
theorem rv_xor {x y : Operand} {p q : Int} {t t2 : TypeId} (hx : ev L x = some (.int .i64 p)) (hy : ev L y = some (.int .i64 q)) : RV P L ⟨d, .binOp .xor t x y t2, ty, pos, af, g⟩ w (.int .i64 (bits .xor .i64 p q)) w := fun N a ha => by
  have e0 := ha.eval hx; have e1 := ha.eval hy; generalize a.eval = ρ at e0 e1 ⊢; simp [execOp, e0, e1, go_sem]
theorem rv_shr {x y : Operand} {k : IntKind} {p q : Int} {t t2 : TypeId} (h0 : 0 ≤ q) (h1 : q ≤ 64) (hx : ev L x = some (.int .i64 p)) (hy : ev L y = some (.int k q)) : RV P L ⟨d, .binOp .shr t x y t2, ty, pos, af, g⟩ w (.int .i64 (p / 2 ^ q.toNat)) w := fun N a ha => by
  have e0 := ha.eval hx; have e1 := ha.eval hy; generalize a.eval = ρ at e0 e1 ⊢
  have h := shift_shr (k := .i64) (yk := k) p q h0 h1
  simp [execOp, e0, e1, eqGuard, binOp, h]
end
theorem and255 (x : Int) : 0 ≤ bits .and .i64 x 255 ∧ bits .and .i64 x 255 ≤ 255 := by
  have h : ((BitVec.ofInt 64 x &&& BitVec.ofInt 64 255).toNat) ≤ 255 := by
    rw [BitVec.toNat_and]
    exact Nat.le_trans Nat.and_le_right (by decide)
  have e : bits .and .i64 x 255 = IntKind.i64.wrap ((BitVec.ofInt 64 x &&& BitVec.ofInt 64 255).toNat : Nat) := rfl
  rw [e, wrap_id (by omega) (by omega)]
  omega
/-! ### Values that have been copied out of lists that may be gone: what they hold in numbers is known -/
section
variable {α : Type}
def tSh (T : Ty α) : Ty α where
  sz := T.sz
  rd := fun _ _ cs x => ∃ w B, T.rd w B cs x
  own := fun _ L cs x => L = [] ∧ ∃ w B, T.rd w B cs x
  rd_len := fun ⟨_, _, h⟩ => T.rd_len h
  rd_one := fun ⟨_, _, h⟩ => T.rd_one h
  rd_keep := fun h _ => h
  rd_mono := fun h _ => h
  own_keep := fun h _ => h
  own_lt := by rintro _ _ _ _ ⟨rfl, _⟩ b hb; cases hb
  own_rd := fun h _ => h.2
theorem tSh_split {T : Ty α} {w : World} {L : List Nat} {cs : List Value} {x : α} (h : (tSh T).own w L cs x) : ∃ g : World × Nat, T.rd g.1 g.2 cs x ∧ Sep [] w L := by
  obtain ⟨h1, w', B', h2⟩ := h
  exact ⟨(w', B'), h2, h1⟩
theorem src_sh {E : Ty α} {B : Nat} {w0 w : World} {is : List It} {u : Value} {ys : List α} (hm : Mem B w0 is w) (h : rdS E w0 B u ys) : SrcOk E (tSh E) w u ys := ⟨w0, B, h, fun _ hA => hm.cell0 hA, fun _ _ k _ => ⟨rfl, w0, B, k⟩⟩
end
/-! ### A list of which the head is cut away, and that still owns the whole -/
def ownP {α : Type} (E : Ty α) (e : TypeId) (w : World) (L : List Nat) (v : Value) (xs : List α) : Prop :=
  ∃ v0 x0, ownS E e w L v0 x0 ∧ ∀ (w' : World) (B : Nat), rdS E w' B v0 x0 → rdS E w' B v xs
def tPa {α : Type} (E : Ty α) (e : TypeId) : Ty (List α) where
  sz := 1
  rd := (tSl E e).rd
  own := fun w L cs xs => ∃ v, cs = [v] ∧ ownP E e w L v xs
  rd_len := (tSl E e).rd_len
  rd_one := (tSl E e).rd_one
  rd_keep := (tSl E e).rd_keep
  rd_mono := (tSl E e).rd_mono
  own_keep := by
    rintro w w' L _ xs ⟨v, rfl, v0, x0, h, h0⟩ hk
    obtain ⟨_, e1, h5⟩ := (tSl E e).own_keep ⟨_, rfl, h⟩ hk
    cases e1
    exact ⟨v, rfl, v0, x0, h5, h0⟩
  own_lt := by
    rintro w L _ xs ⟨v, rfl, v0, x0, h, h0⟩ b hb
    exact (tSl E e).own_lt ⟨_, rfl, h⟩ b hb
  own_rd := by
    rintro w L B _ xs ⟨v, rfl, v0, x0, h, h0⟩ hk
    obtain ⟨_, e1, h5⟩ := (tSl E e).own_rd (B := B) ⟨_, rfl, h⟩ hk
    cases e1
    exact ⟨_, rfl, h0 _ _ h5⟩
theorem Mem.toPa {α : Type} {B : Nat} {w0 w : World} {E : Ty α} {e : TypeId} {v : Value} {xs : List α} {is : List It} (h : Mem B w0 (iOwn (tSl E e) [v] xs :: is) w) : Mem B w0 (iOwn (tPa E e) [v] xs :: is) w :=
  h.perm fun L hL => by
    obtain ⟨_, e1, h5⟩ := hL
    cases e1
    exact ⟨L, ⟨_, rfl, _, _, h5, fun _ _ h => h⟩, .refl _⟩
theorem Mem.toPaD {α : Type} {B : Nat} {w0 w : World} {E : Ty α} {e : TypeId} {A : Option Addr} {n c k s : Nat} {xs : List α} {is : List It} (hk : k ≤ n) (hs : E.sz = s) (h : Mem B w0 (iOwn (tPa E e) [.slice A n c] xs :: is) w) : Mem B w0 (iOwn (tPa E e) [.slice (offA A c k s) (n - k) (c - k)] (xs.drop k) :: is) w :=
  h.perm fun L hL => by
    obtain ⟨_, e1, v0, x0, h5, h0⟩ := hL
    cases e1
    subst hs
    exact ⟨L, ⟨_, rfl, v0, x0, h5, fun _ _ h => rdS_drop hk (h0 _ _ h)⟩, .refl _⟩
theorem Mem.rdPI {α : Type} {B : Nat} {w0 w : World} {E : Ty α} {e : TypeId} {v : Value} {x : List α} {is : List It} (h : Mem B w0 is w) {n : Nat} (hi : is[n]? = some (iOwn (tPa E e) [v] x)) : rdS E w w.heap.size v x := by
  obtain ⟨v', e, h'⟩ := h.rdI hi
  cases e
  exact h'
theorem WM_formP {α : Type} {P : Program} {N B : Nat} {w0 : World} {Q : Exit → Act → World → Prop} {L : List (Nat × Value)} {is : List It} {ops : Array Oper} {l : List Oper} {E : Ty α} {e : TypeId} {v : Value} {xs : List α} {n : Nat} (hi : is[n]? = some (iOwn (tPa E e) [v] xs)) (h : ∀ A c, v = .slice A xs.length c → xs.length ≤ 9223372036854775807 → WM P N B w0 ops Q l L is) : WM P N B w0 ops Q l L is := fun w hm => by
  obtain ⟨hl, A, c, hv, _⟩ := hm.rdPI hi
  exact h A c hv hl w hm
theorem Mem.paInt {B : Nat} {w0 w : World} {is : List It} {a : Addr} {e : TypeId} {m c j i : Nat} {xs : List Int} (h : Mem B w0 is w) (hi : is[i]? = some (iOwn (tPa tInt e) [.slice (some a) m c] xs)) (hj : j < m) : w.cell? (a.add (j * 1)) = some (.int .i64 (gt xs j)) := by
  obtain ⟨hl, A, c', hv, hr⟩ := h.rdPI hi
  cases hv
  obtain ⟨a', ha, _, hx⟩ := hr (by omega)
  cases ha
  exact rdS_int hx j hj
theorem Mem.paForm {α : Type} {B : Nat} {w0 w : World} {is : List It} {E : Ty α} {e : TypeId} {A : Option Addr} {m c n : Nat} {xs : List α} (h : Mem B w0 is w) (hi : is[n]? = some (iOwn (tPa E e) [.slice A m c] xs)) (hp : 0 < m) : ∃ a, A = some a := by
  obtain ⟨_, A', c', hv, hr⟩ := h.rdPI hi
  cases hv
  obtain ⟨a, ha, _⟩ := hr hp
  exact ⟨a, ha⟩
theorem WM_formPO {α : Type} {P : Program} {N B : Nat} {w0 : World} {Q : Exit → Act → World → Prop} {L : List (Nat × Value)} {is : List It} {ops : Array Oper} {l : List Oper} {E : Ty α} {e : TypeId} {A : Option Addr} {m c : Nat} {xs : List α} {n : Nat} (hi : is[n]? = some (iOwn (tPa E e) [.slice A m c] xs)) (hp : 0 < m) (h : ∀ a, A = some a → WM P N B w0 ops Q l L is) : WM P N B w0 ops Q l L is := fun w hm => by
  obtain ⟨a, ha⟩ := hm.paForm hi hp
  exact h a ha w hm
theorem CM_formPO {α : Type} {P : Program} {N B : Nat} {w0 : World} {Q : Exit → Act → World → Prop} {L : List (Nat × Value)} {is : List It} {cd : Code} {E : Ty α} {e : TypeId} {A : Option Addr} {m c : Nat} {xs : List α} {n : Nat} (hi : is[n]? = some (iOwn (tPa E e) [.slice A m c] xs)) (hp : 0 < m) (h : ∀ a, A = some a → CM P N B w0 cd Q L is) : CM P N B w0 cd Q L is := fun w hm => by
  obtain ⟨a, ha⟩ := hm.paForm hi hp
  exact h a ha w hm
theorem QM_r3 {P : Program} {N B : Nat} {w0 : World} {L : List (Nat × Value)} {is : List It} {fn : Func} {R : Ending → World → Prop} {r1 r2 r3 : ResultVar} {v1 v2 v3 : Value} (hr : fn.results = #[r1, r2, r3]) (h1 : RR P N B w0 L is r1 v1) (h2 : RR P N B w0 L is r2 v2) (h3 : RR P N B w0 L is r3 v3) (hR : ∀ w, Mem B w0 is w → R (.returned (.tuple #[v1, v2, v3])) w) : QM N B w0 (bodyPost P fn R) .ret L is := fun w hw a ha =>
  ⟨ha.defers, _, by
    have e : results fn a.tmps = (do let vs ← fn.results.mapM (resOf a); pure (if h : vs.size = 1 then vs[0] else .tuple vs)) := rfl
    rw [e, hr]; simp [h1 w a hw ha, h2 w a hw ha, h3 w a hw ha], hR w hw⟩
theorem QM_r4 {P : Program} {N B : Nat} {w0 : World} {L : List (Nat × Value)} {is : List It} {fn : Func} {R : Ending → World → Prop} {r1 r2 r3 r4 : ResultVar} {v1 v2 v3 v4 : Value} (hr : fn.results = #[r1, r2, r3, r4]) (h1 : RR P N B w0 L is r1 v1) (h2 : RR P N B w0 L is r2 v2) (h3 : RR P N B w0 L is r3 v3) (h4 : RR P N B w0 L is r4 v4) (hR : ∀ w, Mem B w0 is w → R (.returned (.tuple #[v1, v2, v3, v4])) w) : QM N B w0 (bodyPost P fn R) .ret L is := fun w hw a ha =>
  ⟨ha.defers, _, by
    have e : results fn a.tmps = (do let vs ← fn.results.mapM (resOf a); pure (if h : vs.size = 1 then vs[0] else .tuple vs)) := rfl
    rw [e, hr]; simp [h1 w a hw ha, h2 w a hw ha, h3 w a hw ha, h4 w a hw ha], hR w hw⟩
end Go.Proofs.YtfdaaliffcfjjaaGreatDoor
