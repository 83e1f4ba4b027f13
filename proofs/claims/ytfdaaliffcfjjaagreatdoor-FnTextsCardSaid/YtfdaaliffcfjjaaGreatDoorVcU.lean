/-
  The library's stable sort as it runs: elements as rows of cells that are not looked into, with the comparison as a call that is known.
-/
import Derived.Test.YtfdaaliffcfjjaaGreatDoorVcT
import Derived.Test.YtfdaaliffcfjjaaGreatDoorVcS
namespace Go.Proofs.YtfdaaliffcfjjaaGreatDoor
open Go.RowKit

/-- How the cells of an element stand for what is compared. -/
structure Ck (α : Type) where
  s : Nat
  R : List Value → α → Prop
  len : ∀ {cs x}, R cs x → cs.length = s
  one : ∀ {cs x}, R cs x → ∀ u ∈ cs, u.oneCell' = true
def tCk {α : Type} (K : Ck α) : Ty (List Value × α) where
  sz := K.s
  rd := fun _ _ cs x => cs = x.1 ∧ K.R x.1 x.2
  own := fun _ L cs x => L = [] ∧ cs = x.1 ∧ K.R x.1 x.2
  rd_len := by rintro _ _ _ _ ⟨rfl, h⟩; exact K.len h
  rd_one := by rintro _ _ _ _ ⟨rfl, h⟩; exact K.one h
  rd_keep := fun h _ => h
  rd_mono := fun h _ => h
  own_keep := fun h _ => h
  own_lt := by rintro _ _ _ _ ⟨rfl, _⟩ b hb; cases hb
  own_rd := fun h _ => h.2

section
variable {P : Program} {B N : Nat} {w0 : World} {α : Type} [Inhabited α] {K : Ck α} {L : List (Nat × Value)} {js : List It}
theorem Mem.ck {w : World} {g n c j : Nat} {e : TypeId} {xs : List (List Value × α)} (hm : Mem B w0 (iOwn (tSl (tCk K) e) [.slice (some ⟨g, 0, none⟩) n c] xs :: js) w) (hj : j < n) :
    K.R (gt xs j).1 (gt xs j).2 ∧ ∀ o u, (gt xs j).1[o]? = some u → w.cell? (((⟨g, 0, none⟩ : Addr).add (j * K.s)).add o) = some u := by
  obtain ⟨v, hv, h⟩ := hm.rdI (n := 0) rfl
  cases hv
  obtain ⟨-, A, c', hA, h1⟩ := h
  cases hA
  obtain ⟨a, ha, -, h2⟩ := h1 (by omega)
  cases ha
  obtain ⟨c'', ⟨rfl, h3⟩, h4⟩ := h2 j _ (gt_some hj)
  exact ⟨h3, h4⟩
theorem rv_loadCk {x : Operand} {g n c j t : Nat} {e : TypeId} {fs : Array Field} {info : TypeInfo} {xs : List (List Value × α)} {w : World} {d : Option Nat} {ty : TypeId} {pos : String} {af : Array Edge} {gd : Option (Nat × Bool)}
    (ht : P.underlying t = some (.struct fs)) (hi : P.info? t = some info) (hz : info.size = K.s) (hx : ev L x = some (.pointer (some ((⟨g, 0, none⟩ : Addr).add (j * K.s))))) (hm : Mem B w0 (iOwn (tSl (tCk K) e) [.slice (some ⟨g, 0, none⟩) n c] xs :: js) w) (hj : j < n) :
    RV P L ⟨d, .load t x, ty, pos, af, gd⟩ w (.agg (gt xs j).1.toArray) w :=
  rv_loadN ht hi (by rw [hz]; exact (K.len (hm.ck hj).1).symm) hx (hm.ck hj).2
theorem CM_ck {Q : Exit → Act → World → Prop} {cd : Code} {g n c : Nat} {e : TypeId} {xs : List (List Value × α)} (h : (∀ j, j < n → K.R (gt xs j).1 (gt xs j).2) → CM P N B w0 cd Q L (iOwn (tSl (tCk K) e) [.slice (some ⟨g, 0, none⟩) n c] xs :: js)) : CM P N B w0 cd Q L (iOwn (tSl (tCk K) e) [.slice (some ⟨g, 0, none⟩) n c] xs :: js) :=
  fun w hm => h (fun _ hj => (hm.ck hj).1) w hm
theorem rv_mulN {x y : Operand} {p q : Nat} {t t2 : TypeId} {w : World} {d : Option Nat} {ty : TypeId} {pos : String} {af : Array Edge} {g : Option (Nat × Bool)} (hx : ev L x = some (.int .i64 (p : Int))) (hy : ev L y = some (.int .i64 (q : Int))) (h : p * q ≤ 9223372036854775807) :
    RV P L ⟨d, .binOp .mul t x y t2, ty, pos, af, g⟩ w (.int .i64 ((p * q : Nat) : Int)) w := (rv_mul hx hy).cast (by
      have e : ((p : Int) * (q : Int)) = ((p * q : Nat) : Int) := by simp
      rw [e, w64_in (by omega)])
/-- The comparison, called. -/
structure CmpOk (P : Program) (f : FuncId) (K : Ck α) (B : Nat) (w0 : World) (is : List It) (c : α → α → Int) : Prop where
  cb : Cb P f
  go : ∀ (w : World) (x y : List Value × α), Mem B w0 is w → K.R x.1 x.2 → K.R y.1 y.2 → Calls P f #[.agg x.1.toArray, .agg y.1.toArray] w fun e w' => e = .returned (.int .i64 (c x.2 y.2)) ∧ Below w.heap.size w w'
theorem QM_ret0r {fn : Func} {R : Ending → World → Prop} {is : List It} (hr : fn.results = #[]) (hR : ∀ w, Mem B w0 is w → R (.returned (.tuple #[])) w) : QM N B w0 (bodyPost P fn R) .ret L is := fun w hw _ ha => ⟨ha.defers, _, results_none hr _ _ _, hR w hw⟩
theorem rv_convIU {x : Operand} {p : Nat} {t t2 : TypeId} {w : World} {d : Option Nat} {ty : TypeId} {pos : String} {af : Array Edge} {g : Option (Nat × Bool)} (h1 : P.underlying t = some (.int .i64)) (h2 : P.underlying t2 = some (.int .u64)) (hx : ev L x = some (.int .i64 (p : Int))) (hp : p ≤ 9223372036854775807) :
    RV P L ⟨d, .convert t t2 x, ty, pos, af, g⟩ w (.int .u64 (p : Int)) w := fun N a ha => by
  have e0 := ha.eval hx; generalize a.eval = ρ at e0 ⊢
  have e1 : IntKind.u64.wrap (p : Int) = (p : Int) := by simp only [IntKind.wrap_u64]; omega
  simp [execOp, e0, convert, run_underlying h1, run_underlying h2, Conv.intToInt, e1]
theorem rv_convUI {x : Operand} {p : Nat} {t t2 : TypeId} {w : World} {d : Option Nat} {ty : TypeId} {pos : String} {af : Array Edge} {g : Option (Nat × Bool)} (h1 : P.underlying t = some (.int .u64)) (h2 : P.underlying t2 = some (.int .i64)) (hx : ev L x = some (.int .u64 (p : Int))) (hp : p ≤ 9223372036854775807) :
    RV P L ⟨d, .convert t t2 x, ty, pos, af, g⟩ w (.int .i64 (p : Int)) w := fun N a ha => by
  have e0 := ha.eval hx; generalize a.eval = ρ at e0 ⊢
  have e1 : IntKind.i64.wrap (p : Int) = (p : Int) := by simp only [IntKind.wrap_i64]; omega
  simp [execOp, e0, convert, run_underlying h1, run_underlying h2, Conv.intToInt, e1]
theorem rv_half {x : Operand} {p : Nat} {t t2 : TypeId} {w : World} {d : Option Nat} {ty : TypeId} {pos : String} {af : Array Edge} {g : Option (Nat × Bool)} (hx : ev L x = some (.int .u64 (p : Int))) :
    RV P L ⟨d, .binOp .shr t x (.const (.int .u64 1)) t2, ty, pos, af, g⟩ w (.int .u64 ((p / 2 : Nat) : Int)) w := fun N a ha => by
  have e0 := ha.eval hx
  have e1 : a.eval (.const (.int .u64 1)) = .int .u64 1 := rfl
  generalize a.eval = ρ at e0 e1 ⊢
  simp [execOp, e0, e1, go_sem]
end
end Go.Proofs.YtfdaaliffcfjjaaGreatDoor
