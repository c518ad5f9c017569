/- Texts Agg More Blds Fns Tin Data Kit Grow. -/
import Derived.Test.YtiempdpjcddgfaaDoorJ01
import Derived.Test.YtiempdpjcddgfaaDoorProg
import Derived.IntWalk
section
/- Values of several cells: structs and arrays, loaded, stored, taken apart, built. -/
namespace Go.X
open Go

section
variable {P : Program} {H : Hp}

theorem over_list (l : List Value) (o : Nat) (vs : List Value) (h : o + vs.length ≤ l.length) : over l.toArray o vs = (l.take o ++ vs ++ l.drop (o + vs.length)).toArray := by
  apply Array.ext_getElem?
  intro i
  by_cases hi : i < l.length
  · rw [over_get i (by simpa using hi)]
    simp only [List.getElem?_toArray]
    by_cases h1 : i < o
    · rw [if_neg (by omega), List.append_assoc, List.getElem?_append_left (by simp; omega), List.getElem?_take_of_lt h1]
    · by_cases h2 : i < o + vs.length
      · rw [if_pos ⟨by omega, h2⟩, List.append_assoc, List.getElem?_append_right (by simp; omega)]
        have e : (l.take o).length = o := by simp; omega
        rw [e, List.getElem?_append_left (by omega)]
        simp [List.getD, List.getElem?_eq_getElem (show i - o < vs.length by omega)]
      · rw [if_neg (by omega), List.getElem?_append_right (by simp; omega)]
        have e : (l.take o ++ vs).length = o + vs.length := by simp; omega
        rw [e, List.getElem?_drop]
        congr 1; omega
  · rw [Array.getElem?_eq_none (by simp [over_size]; omega), Array.getElem?_eq_none (by simp; omega)]

/-- A load of n cells. -/
def loadA (H : Hp) (b o n : Nat) (K : Value → Prop) : Prop :=
  match H b with
  | some (_, .cells c _ _) => o + n ≤ c.size ∧ K (.agg (c.extract o (o + n)))
  | _ => False
theorem loadA_at {b o n : Nat} {K : Value → Prop} {p : Bool} {c : Array Value} {e : TypeId} {f : Nat × Nat} (h : H b = some (p, .cells c e f)) : loadA H b o n K = (o + n ≤ c.size ∧ K (.agg (c.extract o (o + n)))) := by
  simp [loadA, h]
theorem loadA_set {b o n : Nat} {K : Value → Prop} {c : Array Value} {e : TypeId} {f : Nat × Nat} : loadA (H.set b (.cells c e f)) b o n K = (o + n ≤ c.size ∧ K (.agg (c.extract o (o + n)))) := loadA_at (p := true) (c := c) (e := e) (f := f) (by simp [get_set])
@[congr] theorem loadA_congr {H' : Hp} {b o n b' o' : Nat} {K : Value → Prop} (hH : H = H') (hb : b = b') (ho : o = o') : loadA H b o n K = loadA H' b' o' n K := by subst hH hb ho; rfl

theorem loadAt_agg {t : TypeId} {d : TypeDesc} (hu : P.underlying t = some d) (hd : aggB d = true) {n : Nat} (hs : ∀ w, (sizeOf t).run P w = .ok n w) (b o : Nat) (K : Value → Hp → Prop) (E : Value → Hp → Prop) (hn : loadA H b o n (fun v => K v H)) :
    wpS P (Instr.loadAt t (.pointer (some ⟨b, o, none⟩))) H K E := by
  unfold Instr.loadAt
  rw [wpS_bind']
  simp only [Instr.sureAddr, wpS_pure, loadVar]
  rw [wpS_bind', wpS_isAgg hu, hd]
  simp only [if_true, wpS_bind', wpS_sizeOf hs]
  unfold loadA at hn
  split at hn
  · rename_i p c e f hb
    have hc : ((c.toList.drop o).take n).length = n := by simp; omega
    rw [wpS_loadCells (cs := (c.toList.drop o).take n) hc (fun j u hj => by
      have hjl : j < ((c.toList.drop o).take n).length := (List.getElem?_eq_some_iff.1 hj).1
      rw [hc] at hjl
      rw [cell_of hb]
      rw [List.getElem?_take_of_lt hjl, List.getElem?_drop] at hj
      simpa using hj)]
    have he : ((c.toList.drop o).take n).toArray = c.extract o (o + n) := by
      apply Array.ext'
      simp [List.extract_eq_take_drop]
    rw [he, wpS_pure]
    exact hn.2
  · exact hn.elim

theorem loadCellsFrom_inv (b o : Nat) (K : Array Value → Hp → Prop) (E : Value → Hp → Prop) : ∀ (n i : Nat) (acc : Array Value), wpS P (loadCellsFrom ⟨b, o, none⟩ i n acc) H K E → ∀ j, j < n → ∃ u, H.cell ⟨b, o + (i + j), none⟩ = some u
  | 0, _, _, _, j, hj => by omega
  | n + 1, i, acc, h, j, hj => by
    unfold loadCellsFrom at h
    rw [wpS_bind', add_eq, wpS_load] at h
    obtain ⟨v, hv, h⟩ := h
    cases j with
    | zero => exact ⟨v, by simpa using hv⟩
    | succ j =>
      obtain ⟨u, hu⟩ := loadCellsFrom_inv b o K E n (i + 1) _ h j (by omega)
      exact ⟨u, by rw [show o + (i + (j + 1)) = o + (i + 1 + j) from by omega]; exact hu⟩

theorem loadAt_aggE {t : TypeId} {d : TypeDesc} (hu : P.underlying t = some d) (hd : aggB d = true) {n : Nat} (hs : ∀ w, (sizeOf t).run P w = .ok (n + 1) w) (b o : Nat) (K : Value → Hp → Prop) (E : Value → Hp → Prop) :
    wpS P (Instr.loadAt t (.pointer (some ⟨b, o, none⟩))) H K E = loadA H b o (n + 1) (fun v => K v H) := by
  refine propext ⟨fun h => ?_, loadAt_agg hu hd hs b o K E⟩
  have h' := h
  unfold Instr.loadAt at h'
  rw [wpS_bind'] at h'
  simp only [Instr.sureAddr, wpS_pure, loadVar] at h'
  rw [wpS_bind', wpS_isAgg hu, hd] at h'
  simp only [if_true, wpS_bind', wpS_sizeOf hs] at h'
  have hinv := loadCellsFrom_inv b o _ E (n + 1) 0 #[] h'
  obtain ⟨u0, h0⟩ := hinv 0 (by omega)
  obtain ⟨u1, h1⟩ := hinv n (by omega)
  simp only [Nat.zero_add, Nat.add_zero, Hp.cell] at h0 h1
  rcases hb : H b with _ | ⟨p, ob⟩
  · rw [hb] at h0; cases h0
  · rw [hb] at h0 h1
    cases ob <;> simp only [] at h0 h1 <;> try (cases h0; done)
    rename_i c e f
    have hlt : o + n < c.size := by
      simp only [Option.isSome_none, Bool.false_eq_true, if_false] at h1
      exact (Array.getElem?_eq_some_iff.1 h1).1
    rw [loadA_at hb]
    refine ⟨by omega, ?_⟩
    have hc : ((c.toList.drop o).take (n + 1)).length = n + 1 := by simp; omega
    unfold loadCells at h'
    rw [show loadCellsFrom ⟨b, o, none⟩ 0 (n + 1) #[] = loadCells ⟨b, o, none⟩ (n + 1) from rfl, wpS_loadCells (cs := (c.toList.drop o).take (n + 1)) hc (fun j u hj => by
      have hjl : j < ((c.toList.drop o).take (n + 1)).length := (List.getElem?_eq_some_iff.1 hj).1
      rw [hc] at hjl
      rw [cell_of hb]
      rw [List.getElem?_take_of_lt hjl, List.getElem?_drop] at hj
      simpa using hj)] at h'
    have he : ((c.toList.drop o).take (n + 1)).toArray = c.extract o (o + (n + 1)) := by
      apply Array.ext'
      simp [List.extract_eq_take_drop]
    rw [he, wpS_pure] at h'
    exact h'

/-- A store of several cells. -/
def storL (H : Hp) (b : Nat) : Nat → List Value → (Hp → Prop) → Prop
  | _, [], K => K H
  | o, v :: vs, K => one v = true ∧ stor H b o v fun H' => storL H' b (o + 1) vs K
termination_by _ vs _ => vs.length

theorem storL_nil {b o : Nat} {K : Hp → Prop} : storL H b o [] K = K H := by unfold storL; rfl
theorem storL_cons {b o : Nat} {v : Value} {vs : List Value} {K : Hp → Prop} : storL H b o (v :: vs) K = (one v = true ∧ stor H b o v fun H' => storL H' b (o + 1) vs K) := by
  conv => lhs; unfold storL
theorem storL_at {b : Nat} {K : Hp → Prop} {e : TypeId} : ∀ {vs : List Value} {o : Nat} {H : Hp} {c : Array Value}, vs ≠ [] → H b = some (true, .cells c e (0, 0)) → storL H b o vs K = ((vs.all one) = true ∧ o + vs.length ≤ c.size ∧ K (H.set b (.cells (over c o vs) e (0, 0))))
  | [], _, _, _, h, _ => absurd rfl h
  | [v], o, H, c, _, hb => by
    rw [storL_cons, stor_at hb, storL_nil, ← over_nil (c := c.setIfInBounds o v) (o := o + 1)]
    by_cases h : o < c.size
    · rw [over_cons h]; simp; omega
    · apply propext; constructor
      · rintro ⟨_, h', _⟩; exact absurd h' h
      · rintro ⟨_, h', _⟩; simp at h'; omega
  | v :: w :: vs, o, H, c, _, hb => by
    rw [storL_cons, stor_at hb]
    have ih := storL_at (K := K) (b := b) (e := e) (vs := w :: vs) (o := o + 1) (H := H.set b (.cells (c.setIfInBounds o v) e (0, 0))) (c := c.setIfInBounds o v) (by simp) (by simp [get_set])
    rw [ih, set_set]
    by_cases h : o < c.size
    · rw [over_cons h]
      simp only [List.all_cons, Bool.and_eq_true, List.length_cons, Array.size_setIfInBounds]
      exact propext ⟨fun ⟨a, _, c, d, e⟩ => ⟨⟨a, c⟩, by omega, e⟩, fun ⟨⟨a, c⟩, d, e⟩ => ⟨a, h, c, by omega, e⟩⟩
    · apply propext; constructor
      · rintro ⟨_, h', _⟩; exact absurd h' h
      · rintro ⟨_, h', _⟩; simp at h'; omega
theorem storL_set {b o : Nat} {vs : List Value} {K : Hp → Prop} {c : Array Value} {e : TypeId} {v : Value} : storL (H.set b (.cells c e (0, 0))) b o (v :: vs) K = (((v :: vs).all one) = true ∧ o + (v :: vs).length ≤ c.size ∧ K (H.set b (.cells (over c o (v :: vs)) e (0, 0)))) := by
  rw [storL_at (c := c) (e := e) (by simp) (by simp [get_set]), set_set]
theorem storL_of {b o : Nat} {vs : List Value} {K : Hp → Prop} {c : Array Value} {e : TypeId} {v : Value} (h : H b = some (true, .cells c e (0, 0))) : storL H b o (v :: vs) K = (((v :: vs).all one) = true ∧ o + (v :: vs).length ≤ c.size ∧ K (H.set b (.cells (over c o (v :: vs)) e (0, 0)))) :=
  storL_at (by simp) h
@[congr] theorem storL_congr {H' : Hp} {b o b' o' : Nat} {vs vs' : List Value} {K : Hp → Prop} (hH : H = H') (hb : b = b') (ho : o = o') (hv : vs = vs') : storL H b o vs K = storL H' b' o' vs' K := by subst hH hb ho hv; rfl

theorem wpS_storeCellsE (b o : Nat) (K : Unit → Hp → Prop) (E : Value → Hp → Prop) : ∀ (vs : List Value) (i : Nat) (H : Hp), wpS P (storeCells ⟨b, o, none⟩ vs i) H K E = storL H b (o + i) vs (K ())
  | [], i, H => by rw [storL_nil]; rfl
  | v :: vs, i, H => by
    unfold storeCells
    rw [wpS_bind', add_eq, storL_cons]
    by_cases h1 : one v = true
    · rw [wpS_store h1]
      simp only [h1, true_and]
      congr 1
      funext H'
      exact wpS_storeCellsE b o K E vs (i + 1) H'
    · simp only [store, wpS]
      simp [h1]
theorem storeAt_agg {t : TypeId} {n : Nat} (hs : ∀ w, (sizeOf t).run P w = .ok n w) (b o : Nat) (vs : List Value) (K : Unit → Hp → Prop) (E : Value → Hp → Prop) :
    wpS P (Instr.storeAt t (.pointer (some ⟨b, o, none⟩)) (.agg vs.toArray)) H K E = (vs.length = n ∧ storL H b o vs (K ())) := by
  unfold Instr.storeAt
  rw [wpS_bind']
  simp only [Instr.sureAddr, wpS_pure, storeVar]
  rw [wpS_bind', wpS_sizeOf hs]
  simp only [Value.cells, List.size_toArray, ne_eq]
  by_cases hl : vs.length = n
  · simp only [hl, not_true, if_false, true_and]
    exact wpS_storeCellsE b o K E vs 0 H
  · simp only [hl, not_false_eq_true, if_true, false_and]
    apply propext
    constructor
    · intro h; rw [wpS_bind'] at h; exact h.elim
    · exact fun h => h.elim

theorem asAgg_wp (cs : Array Value) (K : Array Value → Hp → Prop) (E : Value → Hp → Prop) : wpS P (asAgg (.agg cs)) H K E = K cs H := rfl

theorem part_one {t : TypeId} {d : TypeDesc} (hu : P.underlying t = some d) (hd : aggB d = false) (cs : Array Value) (off : Nat) {v : Value} (hv : cs[off]? = some v) (K : Value → Hp → Prop) (E : Value → Hp → Prop) :
    wpS P (part t cs off) H K E = K v H := by
  unfold part
  rw [wpS_bind', wpS_isAgg hu, hd]
  simp [hv, wpS_pure]
theorem part_agg {t : TypeId} {d : TypeDesc} (hu : P.underlying t = some d) (hd : aggB d = true) {n : Nat} (hs : ∀ w, (sizeOf t).run P w = .ok n w) (cs : Array Value) (off : Nat) (K : Value → Hp → Prop) (E : Value → Hp → Prop) :
    wpS P (part t cs off) H K E = K (.agg (cs.extract off (off + n))) H := by
  unfold part
  rw [wpS_bind', wpS_isAgg hu, hd]
  simp only [if_true, wpS_bind', wpS_sizeOf hs, wpS_pure]

theorem field_one {s : TypeId} {fs : Array Field} (hu : P.underlying s = some (.struct fs)) {i : Nat} {f : Field} (hf : fs[i]? = some f) {off : Nat} (ho : f.offset = off) {d : TypeDesc} (hd : P.underlying f.type = some d)
    (hda : aggB d = false) (cs : List Value) {v : Value} (hv : cs[off]? = some v) (K : Value → Hp → Prop) (E : Value → Hp → Prop) :
    wpS P (Instr.field s (.agg cs.toArray) i) H K E = K v H := by
  subst ho
  unfold Instr.field
  rw [wpS_bind', wpS_underlying hu]
  simp only [hf, wpS_bind', asAgg_wp]
  exact part_one hd hda _ _ (by simpa using hv) K E
theorem field_agg {s : TypeId} {fs : Array Field} (hu : P.underlying s = some (.struct fs)) {i : Nat} {f : Field} (hf : fs[i]? = some f) {off : Nat} (ho : f.offset = off) {d : TypeDesc} (hd : P.underlying f.type = some d)
    (hda : aggB d = true) {n : Nat} (hs : ∀ w, (sizeOf f.type).run P w = .ok n w) (cs : Array Value) (K : Value → Hp → Prop) (E : Value → Hp → Prop) :
    wpS P (Instr.field s (.agg cs) i) H K E = K (.agg (cs.extract off (off + n))) H := by
  subst ho
  unfold Instr.field
  rw [wpS_bind', wpS_underlying hu]
  simp only [hf, wpS_bind', asAgg_wp]
  exact part_agg hd hda hs _ _ K E

/-! ### building -/
/-- The sizes of fields. -/
def Sizes (P : Program) : List Field → List Nat → Prop
  | [], [] => True
  | f :: fs, n :: ns => (∀ w, (sizeOf f.type).run P w = .ok n w) ∧ Sizes P fs ns
  | _, _ => False
def places : List Field → List Nat → List (Nat × Nat)
  | f :: fs, n :: ns => (f.offset, n) :: places fs ns
  | _, _ => []
theorem wpS_places (K : List (Nat × Nat) → Hp → Prop) (E : Value → Hp → Prop) : ∀ (fs : List Field) (ns : List Nat), Sizes P fs ns →
    wpS P (fs.mapM fun f => do pure (f.offset, ← sizeOf f.type)) H K E = K (places fs ns) H
  | [], [], _ => rfl
  | [], _ :: _, h => h.elim
  | _ :: _, [], h => h.elim
  | f :: fs, n :: ns, h => by
    rw [List.mapM_cons, wpS_bind', wpS_bind', wpS_sizeOf h.1]
    rw [wpS_pure, wpS_bind']
    exact wpS_places (fun l H' => K ((f.offset, n) :: l) H') E fs ns h.2
/-- Parts laid into cells, one after another. -/
def lay (pl : List (Nat × Nat)) : List (Nat × Value) → List Value → Option (List Value)
  | [], cs => some cs
  | (i, v) :: rest, cs => match pl[i]? with
    | none => none
    | some (off, n) => if v.cells.size = n ∧ off + n ≤ cs.length then lay pl rest (cs.take off ++ v.cells.toList ++ cs.drop (off + n)) else none

theorem foldl_over (off : Nat) : ∀ (vs : List Value) (k : Nat) (c : Array Value), off + k + vs.length ≤ c.size → (vs.zipIdx k).foldl (fun cs (x : Value × Nat) => cs.setIfInBounds (off + x.2) x.1) c = over c (off + k) vs
  | [], k, c, _ => by rw [over_nil]; rfl
  | v :: vs, k, c, h => by
    simp only [List.length_cons] at h
    simp only [List.zipIdx_cons, List.foldl_cons]
    rw [foldl_over off vs (k + 1) _ (by simp; omega), show off + (k + 1) = off + k + 1 from by omega, over_cons (by omega)]
theorem fill_lay (pl : List (Nat × Nat)) : ∀ (ps : List (Nat × Value)) (cs : List Value) (out : List Value), lay pl ps cs = some out → Instr.fill (pl.toArray[·]?) cs.toArray ps = some out.toArray
  | [], cs, out, h => by simp only [lay, Option.some.injEq] at h; subst h; rfl
  | (i, v) :: rest, cs, out, h => by
    unfold lay at h
    unfold Instr.fill
    rw [List.getElem?_toArray]
    split at h
    · cases h
    · rename_i off n hp
      rw [hp]
      simp only []
      split at h
      · rename_i hc
        rw [if_neg (by simp [hc.1]; exact hc.2)]
        have : (Array.foldl (fun cs (x : Value × Nat) => cs.setIfInBounds (off + x.2) x.1) cs.toArray v.cells.zipIdx) = (cs.take off ++ v.cells.toList ++ cs.drop (off + n)).toArray := by
          rw [← Array.foldl_toList, Array.toList_zipIdx]
          have hlen : v.cells.toList.length = n := by simpa using hc.1
          rw [foldl_over off v.cells.toList 0 cs.toArray (by simp [hc.1]; exact hc.2)]
          rw [Nat.add_zero, over_list _ _ _ (by rw [hlen]; exact hc.2), hlen]
        rw [this]
        exact fill_lay pl rest _ out h
      · cases h

theorem build_struct {t : TypeId} {fs : Array Field} (hu : P.underlying t = some (.struct fs)) {z : List Value} (hz : ∀ w, (zeroValue t).run P w = .ok (.agg z.toArray) w) {ns : List Nat} (hns : Sizes P fs.toList ns) (ps : List (Nat × Value)) {out : List Value} (hl : lay (places fs.toList ns) ps z = some out)
    (K : Value → Hp → Prop) (E : Value → Hp → Prop) : wpS P (Instr.build t ps.toArray) H K E = K (.agg out.toArray) H := by
  unfold Instr.build
  rw [wpS_bind', wpS_zeroValue hz]
  rw [wpS_bind', wpS_underlying hu]
  simp only [Value.cells]
  have hm : (fs.mapM (m := Sem) fun f => do pure (f.offset, ← sizeOf f.type)) = (fs.toList.mapM (m := Sem) fun f => do pure (f.offset, ← sizeOf f.type)) >>= fun l => pure l.toArray := by
    rw [Array.mapM_eq_mapM_toList]
    rfl
  rw [wpS_bind', hm, wpS_bind', wpS_places _ _ _ _ hns]
  simp only [wpS_pure]
  rw [show ((fun x => (places fs.toList ns).toArray[x]?) : Nat → Option (Nat × Nat)) = ((places fs.toList ns).toArray[·]?) from rfl, fill_lay _ _ _ _ hl]
  rfl

theorem makeI {t : TypeId} {d : TypeDesc} (hu : P.underlying t = some d) (hd : (match d with | .interface _ => true | _ => false) = false) (x : Value) (K : Value → Hp → Prop) (E : Value → Hp → Prop) : wpS P (Instr.makeInterface t x) H K E = K (.iface t x) H := by
  unfold Instr.makeInterface
  rw [wpS_bind', wpS_underlying hu]
  cases d <;> first | rfl | cases hd
end
end Go.X
end
section
/- More operations: made slices, min and max, arrays, slicing. -/
set_option linter.unusedSimpArgs false
set_option maxRecDepth 100000
namespace Go.X
open Go
section
variable {P : Program} {main : Bool} {lp : Option Nat} {Q : Exit → Act → Hp → Prop} {a : Act} {H : Hp}

theorem makeSlice_one {t e : TypeId} {z : Value} {inf : TypeInfo} (hu : P.underlying t = some (.slice e)) (hs : ∀ w, (sizeOf e).run P w = .ok 1 w) (hz : ∀ w, (zeroValue e).run P w = .ok z w) (hz1 : one z = true)
    (hi : ∀ w, (typeInfo e).run P w = .ok inf w) (hby : inf.bytes ≤ 1024) (k j : IntKind) (n : Int) (h0 : 0 ≤ n) (h1 : n ≤ 1000000) (K : Value → Hp → Prop) (E : Value → Hp → Prop) :
    wpS P (Instr.makeSlice t (.int k n) (.int j n)) H K E = ∀ b, H b = none → K (.slice (some ⟨b, 0, none⟩) n.toNat n.toNat) (H.set b (.cells (Array.replicate n.toNat z) e (0, 0))) := by
  have hinf := info_of_run hi
  have hw : IntKind.i64.wrap n = n := w64 n (by omega) (by omega)
  have hb : ¬ ((inf.bytes : Int) * n > 2 ^ 48) := by
    have : (inf.bytes : Int) * n ≤ 1024 * 1000000 := Int.mul_le_mul (by omega) h1 h0 (by omega)
    have h2 : (2 : Int) ^ 48 = 281474976710656 := by decide
    omega
  have h00 : ¬ n < 0 := by omega
  unfold Instr.makeSlice
  simp only [wpS_bind', wpS_underlying hu, asInt, asIntOf, wpS_pure, wpS_typeInfo hinf, hw]
  simp only [h00, decide_false, hb, Bool.or_self, Bool.false_eq_true, if_false, gt_iff_lt, Int.lt_irrefl, wpS_bind', askRoom_wp, wpS_sizeOf hs, Nat.mul_one]
  have h0r : ∀ f : Nat → Value, Array.map f (Array.range 0) = #[] := fun f => Array.eq_empty_of_size_eq_zero (by simp)
  by_cases hn : n.toNat = 0
  · simp [-bind_pure_comp, hn, wpS_pure, newRow, newObj, wpS_bind', wpS, h0r]
  · simp only [hn, if_false, wpS_bind', wpS_zeroValue hz, wpS_pure, cells_one hz1, reps, newRow, newObj, wpS]

theorem min_int (ats : Array TypeId) (ty : TypeId) (cs : Array Bool) (k j : IntKind) (x y : Int) (K : Next → Hp → Prop) (E : Value → Hp → Prop) :
    wpS P (builtin .min ats ty cs #[.int k x, .int j y]) H K E = K (.value (.int k (if y < x then y else x))) H := by
  simp only [builtin, Builtin.min_, wpS_bind', List.foldlM, Builtin.min2, wpS_pure]
theorem max_int (ats : Array TypeId) (ty : TypeId) (cs : Array Bool) (k j : IntKind) (x y : Int) (K : Next → Hp → Prop) (E : Value → Hp → Prop) :
    wpS P (builtin .max ats ty cs #[.int k x, .int j y]) H K E = K (.value (.int k (if x < y then y else x))) H := by
  simp only [builtin, Builtin.max_, wpS_bind', List.foldlM, Builtin.max2, wpS_pure]

/-- A cell of an array that a pointer tells. -/
theorem indexAt_array {t e : TypeId} {N : Nat} (hu : P.underlying t = some (.array N e)) {n : Nat} (hs : ∀ w, (sizeOf e).run P w = .ok n w) (b o : Nat) (k : IntKind) (i : Int) (K : Value → Hp → Prop) (E : Value → Hp → Prop) (h0 : 0 ≤ i) (h1 : i < N) :
    wpS P (Instr.indexAt t (.pointer (some ⟨b, o, none⟩)) (.int k i)) H K E = K (.pointer (some ⟨b, o + i.toNat * n, none⟩)) H := by
  unfold Instr.indexAt
  rw [wpS_bind']
  simp only [asIntOf, wpS_pure]
  simp only [wpS_bind', wpS_underlying hu, Instr.sureAddr, wpS_pure, h0, h1, and_self, if_true, wpS_sizeOf hs, add_eq]

/-! ### building, as an equation -/
def layT1 (q : Option (Nat × Nat)) (v : Value) (cs : List Value) : List Value := match q with
  | none => cs
  | some (off, n) => cs.take off ++ v.cells.toList ++ cs.drop (off + n)
def layT (pl : List (Nat × Nat)) : List (Nat × Value) → List Value → List Value
  | [], cs => cs
  | (i, v) :: rest, cs => layT pl rest (layT1 pl[i]? v cs)
def layOk (pl : List (Nat × Nat)) : List (Nat × Value) → Nat → Bool
  | [], _ => true
  | (i, v) :: rest, k => match pl[i]? with
    | none => false
    | some (off, n) => decide (v.cells.size = n) && decide (off + n ≤ k) && layOk pl rest k
theorem lay_T (pl : List (Nat × Nat)) : ∀ (ps : List (Nat × Value)) (cs : List Value) (k : Nat), cs.length = k → layOk pl ps k = true → lay pl ps cs = some (layT pl ps cs)
  | [], cs, _, _, _ => rfl
  | (i, v) :: rest, cs, k, hk, h => by
    unfold layOk at h
    unfold lay layT
    cases hp : pl[i]? with
    | none => rw [hp] at h; cases h
    | some q =>
      obtain ⟨off, n⟩ := q
      rw [hp] at h
      simp only [Bool.and_eq_true, decide_eq_true_eq] at h
      simp only []
      rw [if_pos ⟨h.1.1, by omega⟩]
      refine lay_T pl rest _ k ?_ h.2
      have : v.cells.toList.length = n := by simpa using h.1.1
      simp only [List.length_append, List.length_take, List.length_drop, this]
      omega
theorem layT_nil {pl : List (Nat × Nat)} {cs : List Value} : layT pl [] cs = cs := rfl
theorem layT_cons {pl : List (Nat × Nat)} {cs : List Value} {i : Nat} {v : Value} {rest : List (Nat × Value)} : layT pl ((i, v) :: rest) cs = layT pl rest (layT1 pl[i]? v cs) := rfl
theorem layT1_some {v : Value} {cs : List Value} {off n : Nat} : layT1 (some (off, n)) v cs = cs.take off ++ v.cells.toList ++ cs.drop (off + n) := rfl
theorem cells_int {k : IntKind} {x : Int} : (Value.int k x).cells = #[.int k x] := rfl
theorem cells_bool {x : Bool} : (Value.bool x).cells = #[.bool x] := rfl
theorem cells_slice {x : Option Addr} {n c : Nat} : (Value.slice x n c).cells = #[.slice x n c] := rfl
theorem cells_pointer {x : Option Addr} : (Value.pointer x).cells = #[.pointer x] := rfl
theorem cells_map {x : Option Nat} : (Value.map x).cells = #[.map x] := rfl
theorem cells_iface {x : TypeId} {v : Value} : (Value.iface x v).cells = #[.iface x v] := rfl
theorem cells_agg {c : Array Value} : (Value.agg c).cells = c := rfl
theorem build_eq {t : TypeId} {fs : Array Field} (hu : P.underlying t = some (.struct fs)) {z : List Value} (hz : ∀ w, (zeroValue t).run P w = .ok (.agg z.toArray) w) {ns : List Nat} (hns : Sizes P fs.toList ns) (pl : List (Nat × Nat)) (hp : places fs.toList ns = pl) {k : Nat} (hk : z.length = k)
    (ps : List (Nat × Value)) (K : Value → Hp → Prop) (E : Value → Hp → Prop) (hl : layOk pl ps k = true) : wpS P (Instr.build t ps.toArray) H K E = K (.agg (layT pl ps z).toArray) H := by
  subst hp
  exact build_struct hu hz hns ps (lay_T _ ps z k hk hl) K E

/-- What is done with a callee's end: shut, so that no simplifier looks into it. -/
def onEnd (K : Act → Hp → Prop) (Q : Exit → Act → Hp → Prop) (d : Option Tmp) (a : Act) : Ending → Hp → Prop
  | .returned v, H' => K (a.put d v) H'
  | .panicked c, H' => Q (.panic c) a H'
  | .outgrown, _ => False
theorem onEnd_ret {K : Act → Hp → Prop} {d : Option Tmp} {v : Value} : onEnd K Q d a (.returned v) H = K (a.put d v) H := rfl
theorem uponX_enterK {o : Oper} {K : Act → Hp → Prop} (f : FuncId) (args : Array Value) : uponX P main lp o a K Q (.enter f args) H = Runs P main (Frame.enter P f args .normal) H (onEnd K Q o.dst a) := by
  unfold uponX
  congr 1
/-- What becomes of a part that is taken. -/
def exK (q : Option Value) (K : Value → Prop) : Prop := match q with
  | some v => K v
  | none => False
theorem exK_some {v : Value} {K : Value → Prop} : exK (some v) K = K v := rfl
theorem extract_E (vs : List Value) (i : Nat) (K : Value → Hp → Prop) (E : Value → Hp → Prop) : wpS P (Instr.extract (.tuple vs.toArray) i) H K E = exK vs[i]? (fun v => K v H) := by
  unfold Instr.extract exK
  simp only [List.getElem?_toArray]
  cases vs[i]? <;> rfl

theorem loadVar_agg {t : TypeId} {d : TypeDesc} (hu : P.underlying t = some d) (hd : aggB d = true) {n : Nat} (hs : ∀ w, (sizeOf t).run P w = .ok (n + 1) w) (b o : Nat) (K : Value → Hp → Prop) (E : Value → Hp → Prop) :
    wpS P (loadVar t ⟨b, o, none⟩) H K E = loadA H b o (n + 1) (fun v => K v H) := loadAt_aggE hu hd hs b o K E
/-- A result that lies in a cell. -/
theorem results_cell {fn : Func} {t : Tmp} {ty : TypeId} (h : fn.results = #[.cell t ty]) {n : Nat} {e : Nat → Value} {ds : List Deferred} (ht : t < n) {b o : Nat} (hb : e t = .pointer (some ⟨b, o, none⟩))
    {d : TypeDesc} (hu : P.underlying ty = some d) (hd : aggB d = true) {k : Nat} (hs : ∀ w, (sizeOf ty).run P w = .ok (k + 1) w) (K : Value → Hp → Prop) (E : Value → Hp → Prop) :
    wpS P (results fn (act n e ds).tmps) H K E = loadA H b o (k + 1) (fun v => K v H) := by
  simp [-bind_pure_comp, results, h, act_get? ht, hb, asAddr, wpS_bind', wpS_pure, loadVar_agg hu hd hs]
theorem results_cell_tmp {fn : Func} {t u : Tmp} {ty : TypeId} (h : fn.results = #[.cell t ty, .tmp u]) {n : Nat} {e : Nat → Value} {ds : List Deferred} (ht : t < n) (hu' : u < n) {b o : Nat} (hb : e t = .pointer (some ⟨b, o, none⟩))
    {d : TypeDesc} (hu : P.underlying ty = some d) (hd : aggB d = true) {k : Nat} (hs : ∀ w, (sizeOf ty).run P w = .ok (k + 1) w) (K : Value → Hp → Prop) (E : Value → Hp → Prop) :
    wpS P (results fn (act n e ds).tmps) H K E = loadA H b o (k + 1) (fun v => K (.tuple #[v, e u]) H) := by
  simp [-bind_pure_comp, results, h, act_get? ht, act_get? hu', hb, asAddr, wpS_bind', wpS_pure, loadVar_agg hu hd hs]
theorem results_three {fn : Func} {t u v : Tmp} (h : fn.results = #[.tmp t, .tmp u, .tmp v]) {n : Nat} {e : Nat → Value} {ds : List Deferred} (ht : t < n) (hu : u < n) (hv : v < n) (K : Value → Hp → Prop) (E : Value → Hp → Prop) :
    wpS P (results fn (act n e ds).tmps) H K E = K (.tuple #[e t, e u, e v]) H := by
  simp [results, h, act_get? ht, act_get? hu, act_get? hv, wpS_pure]
theorem bound_int (k : IntKind) (i : Int) (cap : Nat) (kd : BoundsCode) (h0 : 0 ≤ i) (h1 : i ≤ cap) (K : Nat → Hp → Prop) (E : Value → Hp → Prop) : wpS P (Instr.sliceBound (.int k i) cap kd) H K E = K i.toNat H := by
  unfold Instr.sliceBound
  simp [-bind_pure_comp, wpS_bind', asIntOf, wpS_pure, h0, h1]
theorem slice_hi {t e : TypeId} (hu : P.underlying t = some (.slice e)) {n : Nat} (hs : ∀ w, (sizeOf e).run P w = .ok n w) (b o len cap : Nat) (k : IntKind) (i : Int) (h0 : 0 ≤ i) (h1 : i ≤ cap) (K : Value → Hp → Prop) (E : Value → Hp → Prop) :
    wpS P (Instr.sliceAt t (.slice (some ⟨b, o, none⟩) len cap) (none : Option Value) (some (.int k i)) none) H K E = K (.slice (some ⟨b, o, none⟩) i.toNat cap) H := by
  unfold Instr.sliceAt Instr.slice Instr.sliceBounds
  simp [-bind_pure_comp, wpS_bind', wpS_underlying hu, wpS_pure, bound_int k i cap _ h0 h1, wpS_sizeOf hs, add_eq]
theorem slice_arr {t e : TypeId} {N : Nat} (hu : P.underlying t = some (.array N e)) {n : Nat} (hs : ∀ w, (sizeOf e).run P w = .ok n w) (b o : Nat) (K : Value → Hp → Prop) (E : Value → Hp → Prop) :
    wpS P (Instr.sliceAt t (.pointer (some ⟨b, o, none⟩)) (none : Option Value) none none) H K E = K (.slice (some ⟨b, o, none⟩) N N) H := by
  unfold Instr.sliceAt Instr.sliceBounds
  simp [-bind_pure_comp, wpS_bind', wpS_underlying hu, Instr.sureAddr, wpS_pure, wpS_sizeOf hs, add_eq]
theorem slice_arr_hi {t e : TypeId} {N : Nat} (hu : P.underlying t = some (.array N e)) {n : Nat} (hs : ∀ w, (sizeOf e).run P w = .ok n w) (b o : Nat) (k : IntKind) (i : Int) (h0 : 0 ≤ i) (h1 : i ≤ N) (K : Value → Hp → Prop) (E : Value → Hp → Prop) :
    wpS P (Instr.sliceAt t (.pointer (some ⟨b, o, none⟩)) (none : Option Value) (some (.int k i)) none) H K E = K (.slice (some ⟨b, o, none⟩) i.toNat N) H := by
  unfold Instr.sliceAt Instr.sliceBounds
  simp [-bind_pure_comp, wpS_bind', wpS_underlying hu, Instr.sureAddr, wpS_pure, bound_int k i N _ h0 h1, wpS_sizeOf hs, add_eq]
theorem slice_lo {t e : TypeId} (hu : P.underlying t = some (.slice e)) {n : Nat} (hs : ∀ w, (sizeOf e).run P w = .ok n w) (b o len cap : Nat) (k : IntKind) (i : Int) (h0 : 0 ≤ i) (h1 : i ≤ len) (K : Value → Hp → Prop) (E : Value → Hp → Prop) :
    wpS P (Instr.sliceAt t (.slice (some ⟨b, o, none⟩) len cap) (some (.int k i)) (none : Option Value) none) H K E = K (.slice (if cap = i.toNat then some ⟨b, o, none⟩ else some ⟨b, o + i.toNat * n, none⟩) (len - i.toNat) (cap - i.toNat)) H := by
  unfold Instr.sliceAt Instr.slice Instr.sliceBounds
  simp [-bind_pure_comp, wpS_bind', wpS_underlying hu, wpS_pure, bound_int k i len _ h0 h1, wpS_sizeOf hs, add_eq]
theorem slice_lohi {t e : TypeId} (hu : P.underlying t = some (.slice e)) {n : Nat} (hs : ∀ w, (sizeOf e).run P w = .ok n w) (b o len cap : Nat) (k k' : IntKind) (i j : Int) (h0 : 0 ≤ i) (h1 : i ≤ j) (h2 : j ≤ cap) (K : Value → Hp → Prop) (E : Value → Hp → Prop) :
    wpS P (Instr.sliceAt t (.slice (some ⟨b, o, none⟩) len cap) (some (.int k i)) (some (.int k' j)) none) H K E = K (.slice (if cap = i.toNat then some ⟨b, o, none⟩ else some ⟨b, o + i.toNat * n, none⟩) (j.toNat - i.toNat) (cap - i.toNat)) H := by
  unfold Instr.sliceAt Instr.slice Instr.sliceBounds
  have hj : i ≤ (j.toNat : Int) := by omega
  simp [-bind_pure_comp, wpS_bind', wpS_underlying hu, wpS_pure, bound_int k' j cap _ (by omega) h2, bound_int k i j.toNat _ h0 hj, wpS_sizeOf hs, add_eq]
end
end Go.X
end
section
/- Built structs and literals of slices, as equations. -/
set_option maxRecDepth 100000
set_option linter.unusedVariables false
namespace Go.Proofs.YtiempdpjcddgfaaDoor
open Go Go.X
theorem lit_22_1_0_0 (H : Hp) (kx1 : IntKind) (x1 : Int) (K : Value → Hp → Prop) (E : Value → Hp → Prop) : wpS Tryd.prog (Instr.buildSlice 22 1 #[(0, .int kx1 x1)]) H K E = ∀ b, H b = none → K (.slice (some ⟨b, 0, none⟩) 1 1) (H.set b (.cells #[.int kx1 x1] 3 (0, 0))) := buildSliceN (K := K) (E := E) Tryd.underlying22 Tryd.sizeOf3 Tryd.zeroValue3 rfl 1 [(0, .int kx1 x1)] (by decide) (by decide) (c := #[.int kx1 x1]) (by kernel_rfl)
theorem lit_22_4_0_1_2_3_0 (H : Hp) (kx1 : IntKind) (x1 : Int) (kx2 : IntKind) (x2 : Int) (kx3 : IntKind) (x3 : Int) (kx4 : IntKind) (x4 : Int) (K : Value → Hp → Prop) (E : Value → Hp → Prop) : wpS Tryd.prog (Instr.buildSlice 22 4 #[(0, .int kx1 x1), (1, .int kx2 x2), (2, .int kx3 x3), (3, .int kx4 x4)]) H K E = ∀ b, H b = none → K (.slice (some ⟨b, 0, none⟩) 4 4) (H.set b (.cells #[.int kx1 x1, .int kx2 x2, .int kx3 x3, .int kx4 x4] 3 (0, 0))) := buildSliceN (K := K) (E := E) Tryd.underlying22 Tryd.sizeOf3 Tryd.zeroValue3 rfl 4 [(0, .int kx1 x1), (1, .int kx2 x2), (2, .int kx3 x3), (3, .int kx4 x4)] (by decide) (by decide) (c := #[.int kx1 x1, .int kx2 x2, .int kx3 x3, .int kx4 x4]) (by kernel_rfl)
theorem lit_22_2_0_1_0 (H : Hp) (kx1 : IntKind) (x1 : Int) (kx2 : IntKind) (x2 : Int) (K : Value → Hp → Prop) (E : Value → Hp → Prop) : wpS Tryd.prog (Instr.buildSlice 22 2 #[(0, .int kx1 x1), (1, .int kx2 x2)]) H K E = ∀ b, H b = none → K (.slice (some ⟨b, 0, none⟩) 2 2) (H.set b (.cells #[.int kx1 x1, .int kx2 x2] 3 (0, 0))) := buildSliceN (K := K) (E := E) Tryd.underlying22 Tryd.sizeOf3 Tryd.zeroValue3 rfl 2 [(0, .int kx1 x1), (1, .int kx2 x2)] (by decide) (by decide) (c := #[.int kx1 x1, .int kx2 x2]) (by kernel_rfl)
theorem lit_22_3_0_1_2_0 (H : Hp) (kx1 : IntKind) (x1 : Int) (kx2 : IntKind) (x2 : Int) (kx3 : IntKind) (x3 : Int) (K : Value → Hp → Prop) (E : Value → Hp → Prop) : wpS Tryd.prog (Instr.buildSlice 22 3 #[(0, .int kx1 x1), (1, .int kx2 x2), (2, .int kx3 x3)]) H K E = ∀ b, H b = none → K (.slice (some ⟨b, 0, none⟩) 3 3) (H.set b (.cells #[.int kx1 x1, .int kx2 x2, .int kx3 x3] 3 (0, 0))) := buildSliceN (K := K) (E := E) Tryd.underlying22 Tryd.sizeOf3 Tryd.zeroValue3 rfl 3 [(0, .int kx1 x1), (1, .int kx2 x2), (2, .int kx3 x3)] (by decide) (by decide) (c := #[.int kx1 x1, .int kx2 x2, .int kx3 x3]) (by kernel_rfl)
theorem bld_50_0_2_0 (H : Hp) (x1 : Option Addr) (nx1 cx1 : Nat) (kx2 : IntKind) (x2 : Int) (K : Value → Hp → Prop) (E : Value → Hp → Prop) : wpS Tryd.prog (Instr.build 50 #[(0, .slice x1 nx1 cx1), (2, .int kx2 x2)]) H K E = K (.agg #[.slice x1 nx1 cx1, .int .i64 0, .int kx2 x2]) H := build_struct Tryd.underlying50 Tryd.zeroValue50 (ns := [1, 1, 1]) ⟨Tryd.sizeOf22, Tryd.sizeOf3, Tryd.sizeOf48, trivial⟩ [(0, .slice x1 nx1 cx1), (2, .int kx2 x2)] (out := [.slice x1 nx1 cx1, .int .i64 0, .int kx2 x2]) (by kernel_rfl) K E
theorem lit_23_2_0_1_0 (H : Hp) (x1 : Option Addr) (nx1 cx1 : Nat) (x2 : Option Addr) (nx2 cx2 : Nat) (K : Value → Hp → Prop) (E : Value → Hp → Prop) : wpS Tryd.prog (Instr.buildSlice 23 2 #[(0, .slice x1 nx1 cx1), (1, .slice x2 nx2 cx2)]) H K E = ∀ b, H b = none → K (.slice (some ⟨b, 0, none⟩) 2 2) (H.set b (.cells #[.slice x1 nx1 cx1, .slice x2 nx2 cx2] 22 (0, 0))) := buildSliceN (K := K) (E := E) Tryd.underlying23 Tryd.sizeOf22 Tryd.zeroValue22 rfl 2 [(0, .slice x1 nx1 cx1), (1, .slice x2 nx2 cx2)] (by decide) (by decide) (c := #[.slice x1 nx1 cx1, .slice x2 nx2 cx2]) (by kernel_rfl)
theorem bld_25_0_1_2_3_0 (H : Hp) (kx1 : IntKind) (x1 : Int) (kx2 : IntKind) (x2 : Int) (x3 : Option Addr) (nx3 cx3 : Nat) (x4 : Option Addr) (nx4 cx4 : Nat) (K : Value → Hp → Prop) (E : Value → Hp → Prop) : wpS Tryd.prog (Instr.build 25 #[(0, .int kx1 x1), (1, .int kx2 x2), (2, .slice x3 nx3 cx3), (3, .slice x4 nx4 cx4)]) H K E = K (.agg #[.int kx1 x1, .int kx2 x2, .slice x3 nx3 cx3, .slice x4 nx4 cx4]) H := build_struct Tryd.underlying25 Tryd.zeroValue25 (ns := [1, 1, 1, 1]) ⟨Tryd.sizeOf3, Tryd.sizeOf3, Tryd.sizeOf22, Tryd.sizeOf23, trivial⟩ [(0, .int kx1 x1), (1, .int kx2 x2), (2, .slice x3 nx3 cx3), (3, .slice x4 nx4 cx4)] (out := [.int kx1 x1, .int kx2 x2, .slice x3 nx3 cx3, .slice x4 nx4 cx4]) (by kernel_rfl) K E
theorem bld_27_0_1_0 (H : Hp) (kx1 : IntKind) (x1 : Int) (kx2 : IntKind) (x2 : Int) (K : Value → Hp → Prop) (E : Value → Hp → Prop) : wpS Tryd.prog (Instr.build 27 #[(0, .int kx1 x1), (1, .int kx2 x2)]) H K E = K (.agg #[.int kx1 x1, .int kx2 x2]) H := build_struct Tryd.underlying27 Tryd.zeroValue27 (ns := [1, 1]) ⟨Tryd.sizeOf3, Tryd.sizeOf3, trivial⟩ [(0, .int kx1 x1), (1, .int kx2 x2)] (out := [.int kx1 x1, .int kx2 x2]) (by kernel_rfl) K E
theorem bld_29_0_1_3_5_6_7_0 (H : Hp) (kx1 : IntKind) (x1 : Int) (kx2 : IntKind) (x2 : Int) (x3 : Option Addr) (nx3 cx3 : Nat) (x4 : Option Addr) (nx4 cx4 : Nat) (x5 : Option Addr) (nx5 cx5 : Nat) (x6 : Option Addr) (nx6 cx6 : Nat) (kx7 : IntKind) (x7 : Int) (kx8 : IntKind) (x8 : Int) (kx9 : IntKind) (x9 : Int) (kx10 : IntKind) (x10 : Int) (K : Value → Hp → Prop) (E : Value → Hp → Prop) : wpS Tryd.prog (Instr.build 29 #[(0, .agg #[.int kx1 x1, .int kx2 x2, .slice x3 nx3 cx3, .slice x4 nx4 cx4]), (1, .slice x5 nx5 cx5), (3, .slice x6 nx6 cx6), (5, .int kx7 x7), (6, .int kx8 x8), (7, .agg #[.int kx9 x9, .int kx10 x10])]) H K E = K (.agg #[.int kx1 x1, .int kx2 x2, .slice x3 nx3 cx3, .slice x4 nx4 cx4, .slice x5 nx5 cx5, .int .i64 0, .slice x6 nx6 cx6, .int .i64 0, .int kx7 x7, .int kx8 x8, .int kx9 x9, .int kx10 x10]) H := build_struct Tryd.underlying29 Tryd.zeroValue29 (ns := [4, 1, 1, 1, 1, 1, 1, 2]) ⟨Tryd.sizeOf25, Tryd.sizeOf22, Tryd.sizeOf3, Tryd.sizeOf22, Tryd.sizeOf3, Tryd.sizeOf3, Tryd.sizeOf3, Tryd.sizeOf27, trivial⟩ [(0, .agg #[.int kx1 x1, .int kx2 x2, .slice x3 nx3 cx3, .slice x4 nx4 cx4]), (1, .slice x5 nx5 cx5), (3, .slice x6 nx6 cx6), (5, .int kx7 x7), (6, .int kx8 x8), (7, .agg #[.int kx9 x9, .int kx10 x10])] (out := [.int kx1 x1, .int kx2 x2, .slice x3 nx3 cx3, .slice x4 nx4 cx4, .slice x5 nx5 cx5, .int .i64 0, .slice x6 nx6 cx6, .int .i64 0, .int kx7 x7, .int kx8 x8, .int kx9 x9, .int kx10 x10]) (by kernel_rfl) K E
theorem lit_22_6_0_1_2_3_4_5_0 (H : Hp) (kx1 : IntKind) (x1 : Int) (kx2 : IntKind) (x2 : Int) (kx3 : IntKind) (x3 : Int) (kx4 : IntKind) (x4 : Int) (kx5 : IntKind) (x5 : Int) (kx6 : IntKind) (x6 : Int) (K : Value → Hp → Prop) (E : Value → Hp → Prop) : wpS Tryd.prog (Instr.buildSlice 22 6 #[(0, .int kx1 x1), (1, .int kx2 x2), (2, .int kx3 x3), (3, .int kx4 x4), (4, .int kx5 x5), (5, .int kx6 x6)]) H K E = ∀ b, H b = none → K (.slice (some ⟨b, 0, none⟩) 6 6) (H.set b (.cells #[.int kx1 x1, .int kx2 x2, .int kx3 x3, .int kx4 x4, .int kx5 x5, .int kx6 x6] 3 (0, 0))) := buildSliceN (K := K) (E := E) Tryd.underlying22 Tryd.sizeOf3 Tryd.zeroValue3 rfl 6 [(0, .int kx1 x1), (1, .int kx2 x2), (2, .int kx3 x3), (3, .int kx4 x4), (4, .int kx5 x5), (5, .int kx6 x6)] (by decide) (by decide) (c := #[.int kx1 x1, .int kx2 x2, .int kx3 x3, .int kx4 x4, .int kx5 x5, .int kx6 x6]) (by kernel_rfl)
theorem bld_25_0_1_0 (H : Hp) (kx1 : IntKind) (x1 : Int) (kx2 : IntKind) (x2 : Int) (K : Value → Hp → Prop) (E : Value → Hp → Prop) : wpS Tryd.prog (Instr.build 25 #[(0, .int kx1 x1), (1, .int kx2 x2)]) H K E = K (.agg #[.int kx1 x1, .int kx2 x2, .slice none 0 0, .slice none 0 0]) H := build_struct Tryd.underlying25 Tryd.zeroValue25 (ns := [1, 1, 1, 1]) ⟨Tryd.sizeOf3, Tryd.sizeOf3, Tryd.sizeOf22, Tryd.sizeOf23, trivial⟩ [(0, .int kx1 x1), (1, .int kx2 x2)] (out := [.int kx1 x1, .int kx2 x2, .slice none 0 0, .slice none 0 0]) (by kernel_rfl) K E
theorem bld_62_1_0 (H : Hp) (kx1 : IntKind) (x1 : Int) (K : Value → Hp → Prop) (E : Value → Hp → Prop) : wpS Tryd.prog (Instr.build 62 #[(1, .int kx1 x1)]) H K E = K (.agg #[.int .i64 0, .int kx1 x1]) H := build_struct Tryd.underlying62 Tryd.zeroValue62 (ns := [1, 1]) ⟨Tryd.sizeOf3, Tryd.sizeOf60, trivial⟩ [(1, .int kx1 x1)] (out := [.int .i64 0, .int kx1 x1]) (by kernel_rfl) K E
theorem lit_23_1_0_0 (H : Hp) (x1 : Option Addr) (nx1 cx1 : Nat) (K : Value → Hp → Prop) (E : Value → Hp → Prop) : wpS Tryd.prog (Instr.buildSlice 23 1 #[(0, .slice x1 nx1 cx1)]) H K E = ∀ b, H b = none → K (.slice (some ⟨b, 0, none⟩) 1 1) (H.set b (.cells #[.slice x1 nx1 cx1] 22 (0, 0))) := buildSliceN (K := K) (E := E) Tryd.underlying23 Tryd.sizeOf22 Tryd.zeroValue22 rfl 1 [(0, .slice x1 nx1 cx1)] (by decide) (by decide) (c := #[.slice x1 nx1 cx1]) (by kernel_rfl)
theorem bld_82_0_1_0 (H : Hp) (kx1 : IntKind) (x1 : Int) (kx2 : IntKind) (x2 : Int) (K : Value → Hp → Prop) (E : Value → Hp → Prop) : wpS Tryd.prog (Instr.build 82 #[(0, .int kx1 x1), (1, .int kx2 x2)]) H K E = K (.agg #[.int kx1 x1, .int kx2 x2]) H := build_struct Tryd.underlying82 Tryd.zeroValue82 (ns := [1, 1]) ⟨Tryd.sizeOf33, Tryd.sizeOf3, trivial⟩ [(0, .int kx1 x1), (1, .int kx2 x2)] (out := [.int kx1 x1, .int kx2 x2]) (by kernel_rfl) K E
theorem bld_93_0_1_2_0 (H : Hp) (kx1 : IntKind) (x1 : Int) (kx2 : IntKind) (x2 : Int) (x3 : Option Addr) (nx3 cx3 : Nat) (x4 : Option Addr) (nx4 cx4 : Nat) (x5 : Option Addr) (nx5 cx5 : Nat) (x6 : Option Nat) (K : Value → Hp → Prop) (E : Value → Hp → Prop) : wpS Tryd.prog (Instr.build 93 #[(0, .agg #[.int kx1 x1, .int kx2 x2, .slice x3 nx3 cx3, .slice x4 nx4 cx4]), (1, .slice x5 nx5 cx5), (2, .map x6)]) H K E = K (.agg #[.int kx1 x1, .int kx2 x2, .slice x3 nx3 cx3, .slice x4 nx4 cx4, .slice x5 nx5 cx5, .map x6]) H := build_struct Tryd.underlying93 Tryd.zeroValue93 (ns := [4, 1, 1]) ⟨Tryd.sizeOf25, Tryd.sizeOf22, Tryd.sizeOf91, trivial⟩ [(0, .agg #[.int kx1 x1, .int kx2 x2, .slice x3 nx3 cx3, .slice x4 nx4 cx4]), (1, .slice x5 nx5 cx5), (2, .map x6)] (out := [.int kx1 x1, .int kx2 x2, .slice x3 nx3 cx3, .slice x4 nx4 cx4, .slice x5 nx5 cx5, .map x6]) (by kernel_rfl) K E
theorem bld_62_0_1_0 (H : Hp) (kx1 : IntKind) (x1 : Int) (kx2 : IntKind) (x2 : Int) (K : Value → Hp → Prop) (E : Value → Hp → Prop) : wpS Tryd.prog (Instr.build 62 #[(0, .int kx1 x1), (1, .int kx2 x2)]) H K E = K (.agg #[.int kx1 x1, .int kx2 x2]) H := build_struct Tryd.underlying62 Tryd.zeroValue62 (ns := [1, 1]) ⟨Tryd.sizeOf3, Tryd.sizeOf60, trivial⟩ [(0, .int kx1 x1), (1, .int kx2 x2)] (out := [.int kx1 x1, .int kx2 x2]) (by kernel_rfl) K E
theorem bld_68_0_0 (H : Hp) (kx1 : IntKind) (x1 : Int) (kx2 : IntKind) (x2 : Int) (x3 : Option Addr) (nx3 cx3 : Nat) (x4 : Option Addr) (nx4 cx4 : Nat) (x5 : Option Addr) (nx5 cx5 : Nat) (kx6 : IntKind) (x6 : Int) (x7 : Option Addr) (nx7 cx7 : Nat) (kx8 : IntKind) (x8 : Int) (kx9 : IntKind) (x9 : Int) (kx10 : IntKind) (x10 : Int) (kx11 : IntKind) (x11 : Int) (kx12 : IntKind) (x12 : Int) (K : Value → Hp → Prop) (E : Value → Hp → Prop) : wpS Tryd.prog (Instr.build 68 #[(0, .agg #[.int kx1 x1, .int kx2 x2, .slice x3 nx3 cx3, .slice x4 nx4 cx4, .slice x5 nx5 cx5, .int kx6 x6, .slice x7 nx7 cx7, .int kx8 x8, .int kx9 x9, .int kx10 x10, .int kx11 x11, .int kx12 x12])]) H K E = K (.agg #[.int kx1 x1, .int kx2 x2, .slice x3 nx3 cx3, .slice x4 nx4 cx4, .slice x5 nx5 cx5, .int kx6 x6, .slice x7 nx7 cx7, .int kx8 x8, .int kx9 x9, .int kx10 x10, .int kx11 x11, .int kx12 x12, .slice none 0 0]) H := build_struct Tryd.underlying68 Tryd.zeroValue68 (ns := [12, 1]) ⟨Tryd.sizeOf29, Tryd.sizeOf22, trivial⟩ [(0, .agg #[.int kx1 x1, .int kx2 x2, .slice x3 nx3 cx3, .slice x4 nx4 cx4, .slice x5 nx5 cx5, .int kx6 x6, .slice x7 nx7 cx7, .int kx8 x8, .int kx9 x9, .int kx10 x10, .int kx11 x11, .int kx12 x12])] (out := [.int kx1 x1, .int kx2 x2, .slice x3 nx3 cx3, .slice x4 nx4 cx4, .slice x5 nx5 cx5, .int kx6 x6, .slice x7 nx7 cx7, .int kx8 x8, .int kx9 x9, .int kx10 x10, .int kx11 x11, .int kx12 x12, .slice none 0 0]) (by kernel_rfl) K E
theorem bld_114__0 (H : Hp)  (K : Value → Hp → Prop) (E : Value → Hp → Prop) : wpS Tryd.prog (Instr.build 114 #[]) H K E = K (.agg #[]) H := build_struct Tryd.underlying114 Tryd.zeroValue114 (ns := []) trivial [] (out := []) (by kernel_rfl) K E
theorem bld_108_0_1_0 (H : Hp) (kx1 : IntKind) (x1 : Int) (kx2 : IntKind) (x2 : Int) (K : Value → Hp → Prop) (E : Value → Hp → Prop) : wpS Tryd.prog (Instr.build 108 #[(0, .int kx1 x1), (1, .int kx2 x2)]) H K E = K (.agg #[.int kx1 x1, .int kx2 x2, .int .i64 0]) H := build_struct Tryd.underlying108 Tryd.zeroValue108 (ns := [1, 1, 1]) ⟨Tryd.sizeOf3, Tryd.sizeOf3, Tryd.sizeOf3, trivial⟩ [(0, .int kx1 x1), (1, .int kx2 x2)] (out := [.int kx1 x1, .int kx2 x2, .int .i64 0]) (by kernel_rfl) K E
theorem bld_161__0 (H : Hp)  (K : Value → Hp → Prop) (E : Value → Hp → Prop) : wpS Tryd.prog (Instr.build 161 #[]) H K E = K (.agg #[]) H := build_struct Tryd.underlying161 Tryd.zeroValue161 (ns := []) trivial [] (out := []) (by kernel_rfl) K E
theorem bld_162__0 (H : Hp)  (K : Value → Hp → Prop) (E : Value → Hp → Prop) : wpS Tryd.prog (Instr.build 162 #[]) H K E = K (.agg #[]) H := build_struct Tryd.underlying162 Tryd.zeroValue162 (ns := []) trivial [] (out := []) (by kernel_rfl) K E
theorem bld_163__0 (H : Hp)  (K : Value → Hp → Prop) (E : Value → Hp → Prop) : wpS Tryd.prog (Instr.build 163 #[]) H K E = K (.agg #[]) H := build_struct Tryd.underlying163 Tryd.zeroValue163 (ns := []) trivial [] (out := []) (by kernel_rfl) K E
theorem bld_164__0 (H : Hp)  (K : Value → Hp → Prop) (E : Value → Hp → Prop) : wpS Tryd.prog (Instr.build 164 #[]) H K E = K (.agg #[]) H := build_struct Tryd.underlying164 Tryd.zeroValue164 (ns := []) trivial [] (out := []) (by kernel_rfl) K E
theorem bld_172__0 (H : Hp)  (K : Value → Hp → Prop) (E : Value → Hp → Prop) : wpS Tryd.prog (Instr.build 172 #[]) H K E = K (.agg #[]) H := build_struct Tryd.underlying172 Tryd.zeroValue172 (ns := []) trivial [] (out := []) (by kernel_rfl) K E
end Go.Proofs.YtiempdpjcddgfaaDoor
end
section
/- Calls of functions by their names: entered. -/
namespace Go.Proofs.YtiempdpjcddgfaaDoor
open Go Go.X
variable {H : Hp} (args : Array Value) (K : Next → Hp → Prop) (E : Value → Hp → Prop)
theorem callF3 : wpS Tryd.prog (callFunc 3 args) H K E = K (.enter 3 args) H := wpS_callFunc Tryd.func3 (by kernel_rfl) (by kernel_rfl) args K E
theorem callF4 : wpS Tryd.prog (callFunc 4 args) H K E = K (.enter 4 args) H := wpS_callFunc Tryd.func4 (by kernel_rfl) (by kernel_rfl) args K E
theorem callF5 : wpS Tryd.prog (callFunc 5 args) H K E = K (.enter 5 args) H := wpS_callFunc Tryd.func5 (by kernel_rfl) (by kernel_rfl) args K E
theorem callF6 : wpS Tryd.prog (callFunc 6 args) H K E = K (.enter 6 args) H := wpS_callFunc Tryd.func6 (by kernel_rfl) (by kernel_rfl) args K E
theorem callF7 : wpS Tryd.prog (callFunc 7 args) H K E = K (.enter 7 args) H := wpS_callFunc Tryd.func7 (by kernel_rfl) (by kernel_rfl) args K E
theorem callF8 : wpS Tryd.prog (callFunc 8 args) H K E = K (.enter 8 args) H := wpS_callFunc Tryd.func8 (by kernel_rfl) (by kernel_rfl) args K E
theorem callF9 : wpS Tryd.prog (callFunc 9 args) H K E = K (.enter 9 args) H := wpS_callFunc Tryd.func9 (by kernel_rfl) (by kernel_rfl) args K E
theorem callF10 : wpS Tryd.prog (callFunc 10 args) H K E = K (.enter 10 args) H := wpS_callFunc Tryd.func10 (by kernel_rfl) (by kernel_rfl) args K E
theorem callF11 : wpS Tryd.prog (callFunc 11 args) H K E = K (.enter 11 args) H := wpS_callFunc Tryd.func11 (by kernel_rfl) (by kernel_rfl) args K E
theorem callF12 : wpS Tryd.prog (callFunc 12 args) H K E = K (.enter 12 args) H := wpS_callFunc Tryd.func12 (by kernel_rfl) (by kernel_rfl) args K E
theorem callF13 : wpS Tryd.prog (callFunc 13 args) H K E = K (.enter 13 args) H := wpS_callFunc Tryd.func13 (by kernel_rfl) (by kernel_rfl) args K E
theorem callF14 : wpS Tryd.prog (callFunc 14 args) H K E = K (.enter 14 args) H := wpS_callFunc Tryd.func14 (by kernel_rfl) (by kernel_rfl) args K E
theorem callF15 : wpS Tryd.prog (callFunc 15 args) H K E = K (.enter 15 args) H := wpS_callFunc Tryd.func15 (by kernel_rfl) (by kernel_rfl) args K E
theorem callF16 : wpS Tryd.prog (callFunc 16 args) H K E = K (.enter 16 args) H := wpS_callFunc Tryd.func16 (by kernel_rfl) (by kernel_rfl) args K E
theorem callF17 : wpS Tryd.prog (callFunc 17 args) H K E = K (.enter 17 args) H := wpS_callFunc Tryd.func17 (by kernel_rfl) (by kernel_rfl) args K E
theorem callF18 : wpS Tryd.prog (callFunc 18 args) H K E = K (.enter 18 args) H := wpS_callFunc Tryd.func18 (by kernel_rfl) (by kernel_rfl) args K E
theorem callF19 : wpS Tryd.prog (callFunc 19 args) H K E = K (.enter 19 args) H := wpS_callFunc Tryd.func19 (by kernel_rfl) (by kernel_rfl) args K E
theorem callF20 : wpS Tryd.prog (callFunc 20 args) H K E = K (.enter 20 args) H := wpS_callFunc Tryd.func20 (by kernel_rfl) (by kernel_rfl) args K E
theorem callF21 : wpS Tryd.prog (callFunc 21 args) H K E = K (.enter 21 args) H := wpS_callFunc Tryd.func21 (by kernel_rfl) (by kernel_rfl) args K E
theorem callF22 : wpS Tryd.prog (callFunc 22 args) H K E = K (.enter 22 args) H := wpS_callFunc Tryd.func22 (by kernel_rfl) (by kernel_rfl) args K E
theorem callF23 : wpS Tryd.prog (callFunc 23 args) H K E = K (.enter 23 args) H := wpS_callFunc Tryd.func23 (by kernel_rfl) (by kernel_rfl) args K E
theorem callF24 : wpS Tryd.prog (callFunc 24 args) H K E = K (.enter 24 args) H := wpS_callFunc Tryd.func24 (by kernel_rfl) (by kernel_rfl) args K E
theorem callF25 : wpS Tryd.prog (callFunc 25 args) H K E = K (.enter 25 args) H := wpS_callFunc Tryd.func25 (by kernel_rfl) (by kernel_rfl) args K E
theorem callF26 : wpS Tryd.prog (callFunc 26 args) H K E = K (.enter 26 args) H := wpS_callFunc Tryd.func26 (by kernel_rfl) (by kernel_rfl) args K E
theorem callF27 : wpS Tryd.prog (callFunc 27 args) H K E = K (.enter 27 args) H := wpS_callFunc Tryd.func27 (by kernel_rfl) (by kernel_rfl) args K E
theorem callF28 : wpS Tryd.prog (callFunc 28 args) H K E = K (.enter 28 args) H := wpS_callFunc Tryd.func28 (by kernel_rfl) (by kernel_rfl) args K E
theorem callF29 : wpS Tryd.prog (callFunc 29 args) H K E = K (.enter 29 args) H := wpS_callFunc Tryd.func29 (by kernel_rfl) (by kernel_rfl) args K E
theorem callF30 : wpS Tryd.prog (callFunc 30 args) H K E = K (.enter 30 args) H := wpS_callFunc Tryd.func30 (by kernel_rfl) (by kernel_rfl) args K E
theorem callF31 : wpS Tryd.prog (callFunc 31 args) H K E = K (.enter 31 args) H := wpS_callFunc Tryd.func31 (by kernel_rfl) (by kernel_rfl) args K E
theorem callF32 : wpS Tryd.prog (callFunc 32 args) H K E = K (.enter 32 args) H := wpS_callFunc Tryd.func32 (by kernel_rfl) (by kernel_rfl) args K E
theorem callF33 : wpS Tryd.prog (callFunc 33 args) H K E = K (.enter 33 args) H := wpS_callFunc Tryd.func33 (by kernel_rfl) (by kernel_rfl) args K E
theorem callF34 : wpS Tryd.prog (callFunc 34 args) H K E = K (.enter 34 args) H := wpS_callFunc Tryd.func34 (by kernel_rfl) (by kernel_rfl) args K E
theorem callF35 : wpS Tryd.prog (callFunc 35 args) H K E = K (.enter 35 args) H := wpS_callFunc Tryd.func35 (by kernel_rfl) (by kernel_rfl) args K E
theorem callF36 : wpS Tryd.prog (callFunc 36 args) H K E = K (.enter 36 args) H := wpS_callFunc Tryd.func36 (by kernel_rfl) (by kernel_rfl) args K E
theorem callF37 : wpS Tryd.prog (callFunc 37 args) H K E = K (.enter 37 args) H := wpS_callFunc Tryd.func37 (by kernel_rfl) (by kernel_rfl) args K E
theorem callF38 : wpS Tryd.prog (callFunc 38 args) H K E = K (.enter 38 args) H := wpS_callFunc Tryd.func38 (by kernel_rfl) (by kernel_rfl) args K E
theorem callF39 : wpS Tryd.prog (callFunc 39 args) H K E = K (.enter 39 args) H := wpS_callFunc Tryd.func39 (by kernel_rfl) (by kernel_rfl) args K E
theorem callF40 : wpS Tryd.prog (callFunc 40 args) H K E = K (.enter 40 args) H := wpS_callFunc Tryd.func40 (by kernel_rfl) (by kernel_rfl) args K E
theorem callF41 : wpS Tryd.prog (callFunc 41 args) H K E = K (.enter 41 args) H := wpS_callFunc Tryd.func41 (by kernel_rfl) (by kernel_rfl) args K E
theorem callF42 : wpS Tryd.prog (callFunc 42 args) H K E = K (.enter 42 args) H := wpS_callFunc Tryd.func42 (by kernel_rfl) (by kernel_rfl) args K E
theorem callF43 : wpS Tryd.prog (callFunc 43 args) H K E = K (.enter 43 args) H := wpS_callFunc Tryd.func43 (by kernel_rfl) (by kernel_rfl) args K E
theorem callF44 : wpS Tryd.prog (callFunc 44 args) H K E = K (.enter 44 args) H := wpS_callFunc Tryd.func44 (by kernel_rfl) (by kernel_rfl) args K E
theorem callF45 : wpS Tryd.prog (callFunc 45 args) H K E = K (.enter 45 args) H := wpS_callFunc Tryd.func45 (by kernel_rfl) (by kernel_rfl) args K E
theorem callF46 : wpS Tryd.prog (callFunc 46 args) H K E = K (.enter 46 args) H := wpS_callFunc Tryd.func46 (by kernel_rfl) (by kernel_rfl) args K E
theorem callF47 : wpS Tryd.prog (callFunc 47 args) H K E = K (.enter 47 args) H := wpS_callFunc Tryd.func47 (by kernel_rfl) (by kernel_rfl) args K E
theorem callF48 : wpS Tryd.prog (callFunc 48 args) H K E = K (.enter 48 args) H := wpS_callFunc Tryd.func48 (by kernel_rfl) (by kernel_rfl) args K E
theorem callF49 : wpS Tryd.prog (callFunc 49 args) H K E = K (.enter 49 args) H := wpS_callFunc Tryd.func49 (by kernel_rfl) (by kernel_rfl) args K E
theorem callF50 : wpS Tryd.prog (callFunc 50 args) H K E = K (.enter 50 args) H := wpS_callFunc Tryd.func50 (by kernel_rfl) (by kernel_rfl) args K E
theorem callF51 : wpS Tryd.prog (callFunc 51 args) H K E = K (.enter 51 args) H := wpS_callFunc Tryd.func51 (by kernel_rfl) (by kernel_rfl) args K E
theorem callF52 : wpS Tryd.prog (callFunc 52 args) H K E = K (.enter 52 args) H := wpS_callFunc Tryd.func52 (by kernel_rfl) (by kernel_rfl) args K E
theorem callF56 : wpS Tryd.prog (callFunc 56 args) H K E = K (.enter 56 args) H := wpS_callFunc Tryd.func56 (by kernel_rfl) (by kernel_rfl) args K E
theorem callF57 : wpS Tryd.prog (callFunc 57 args) H K E = K (.enter 57 args) H := wpS_callFunc Tryd.func57 (by kernel_rfl) (by kernel_rfl) args K E
theorem callF58 : wpS Tryd.prog (callFunc 58 args) H K E = K (.enter 58 args) H := wpS_callFunc Tryd.func58 (by kernel_rfl) (by kernel_rfl) args K E
theorem callF59 : wpS Tryd.prog (callFunc 59 args) H K E = K (.enter 59 args) H := wpS_callFunc Tryd.func59 (by kernel_rfl) (by kernel_rfl) args K E
theorem callF60 : wpS Tryd.prog (callFunc 60 args) H K E = K (.enter 60 args) H := wpS_callFunc Tryd.func60 (by kernel_rfl) (by kernel_rfl) args K E
theorem callF61 : wpS Tryd.prog (callFunc 61 args) H K E = K (.enter 61 args) H := wpS_callFunc Tryd.func61 (by kernel_rfl) (by kernel_rfl) args K E
theorem callF62 : wpS Tryd.prog (callFunc 62 args) H K E = K (.enter 62 args) H := wpS_callFunc Tryd.func62 (by kernel_rfl) (by kernel_rfl) args K E
theorem callF63 : wpS Tryd.prog (callFunc 63 args) H K E = K (.enter 63 args) H := wpS_callFunc Tryd.func63 (by kernel_rfl) (by kernel_rfl) args K E
theorem callF64 : wpS Tryd.prog (callFunc 64 args) H K E = K (.enter 64 args) H := wpS_callFunc Tryd.func64 (by kernel_rfl) (by kernel_rfl) args K E
theorem callF65 : wpS Tryd.prog (callFunc 65 args) H K E = K (.enter 65 args) H := wpS_callFunc Tryd.func65 (by kernel_rfl) (by kernel_rfl) args K E
theorem callF66 : wpS Tryd.prog (callFunc 66 args) H K E = K (.enter 66 args) H := wpS_callFunc Tryd.func66 (by kernel_rfl) (by kernel_rfl) args K E
theorem callF70 : wpS Tryd.prog (callFunc 70 args) H K E = K (.enter 70 args) H := wpS_callFunc Tryd.func70 (by kernel_rfl) (by kernel_rfl) args K E
theorem callF71 : wpS Tryd.prog (callFunc 71 args) H K E = K (.enter 71 args) H := wpS_callFunc Tryd.func71 (by kernel_rfl) (by kernel_rfl) args K E
theorem callF72 : wpS Tryd.prog (callFunc 72 args) H K E = K (.enter 72 args) H := wpS_callFunc Tryd.func72 (by kernel_rfl) (by kernel_rfl) args K E
theorem callF73 : wpS Tryd.prog (callFunc 73 args) H K E = K (.enter 73 args) H := wpS_callFunc Tryd.func73 (by kernel_rfl) (by kernel_rfl) args K E
theorem callF74 : wpS Tryd.prog (callFunc 74 args) H K E = K (.enter 74 args) H := wpS_callFunc Tryd.func74 (by kernel_rfl) (by kernel_rfl) args K E
theorem callF75 : wpS Tryd.prog (callFunc 75 args) H K E = K (.enter 75 args) H := wpS_callFunc Tryd.func75 (by kernel_rfl) (by kernel_rfl) args K E
theorem callF112 : wpS Tryd.prog (callFunc 112 args) H K E = K (.enter 112 args) H := wpS_callFunc Tryd.func112 (by kernel_rfl) (by kernel_rfl) args K E
theorem callF113 : wpS Tryd.prog (callFunc 113 args) H K E = K (.enter 113 args) H := wpS_callFunc Tryd.func113 (by kernel_rfl) (by kernel_rfl) args K E
theorem callF114 : wpS Tryd.prog (callFunc 114 args) H K E = K (.enter 114 args) H := wpS_callFunc Tryd.func114 (by kernel_rfl) (by kernel_rfl) args K E
theorem callF115 : wpS Tryd.prog (callFunc 115 args) H K E = K (.enter 115 args) H := wpS_callFunc Tryd.func115 (by kernel_rfl) (by kernel_rfl) args K E
set_option linter.defProp false
def xq := And.intro @Nat.zero_add (And.intro @Nat.add_zero (And.intro @Bool.true_or (And.intro @true_and (And.intro @eval_const (And.intro @eval_func (And.intro @act_eval (And.intro @act_put (And.intro @act_put_none (And.intro @upd_get (And.intro @wpS_pure (And.intro @nilK_ptr (And.intro @nilK_func (And.intro @nilK_yield (And.intro @pickK_bool (And.intro @callK_func (And.intro @bin_add (And.intro @bin_sub (And.intro @bin_mul (And.intro @bin_rem (And.intro @bin_quo (And.intro @bin_and (And.intro @bin_or (And.intro @bin_xor (And.intro @bin_andNot (And.intro @bin_shl (And.intro @bin_shr (And.intro @bin_eql (And.intro @bin_neq (And.intro @bin_lss (And.intro @bin_leq (And.intro @bin_gtr (And.intro @bin_geq (And.intro @eqG_int (And.intro @un_not (And.intro @un_neg (And.intro @w64 (And.intro @add_eq (And.intro @act_get? (And.intro @Bool.false_eq_true (And.intro @Bool.true_eq_false (And.intro @runX_nil (And.intro @numX_eq (And.intro @opX_eq (And.intro @uponX_value (And.intro @uponX_skip (And.intro @uponX_enterK (And.intro @only_normal (And.intro @envOf_zero (And.intro @envOf_succ (And.intro @envOf_nil (And.intro @YN_value (And.intro @YN_enter (And.intro @cell_set_same (And.intro @stor_set_same (And.intro @loadA_set (And.intro @storL_set (And.intro @over_list (And.intro @Bool.and_true (And.intro @Bool.and_self (And.intro @layT_nil (And.intro @layT_cons (And.intro @layT1_some (And.intro @cells_int (And.intro @cells_bool (And.intro @cells_slice (And.intro @cells_pointer (And.intro @cells_map (And.intro @cells_iface (And.intro @cells_agg (And.intro @and_true (And.intro @Nat.le_refl (And.intro @extract_E (And.intro @exK_some @onEnd_ret)))))))))))))))))))))))))))))))))))))))))))))))))))))))))))))))))))))))))
def xp := And.intro @ex_move (And.intro @ex_assign (And.intro @ex_pick (And.intro @ex_box (And.intro @ex_load (And.intro @ex_store (And.intro @ex_fieldAddr (And.intro @ex_field (And.intro @ex_indexAddr (And.intro @ex_index (And.intro @ex_extract (And.intro @ex_nil (And.intro @ex_bin (And.intro @ex_un (And.intro @ex_convert (And.intro @ex_makeInterface (And.intro @ex_makeFunc (And.intro @ex_slice (And.intro @ex_makeSlice (And.intro @ex_build (And.intro @ex_buildSlice (And.intro @ex_lookup (And.intro @ex_mapUpdate (And.intro @ex_typeAssert (And.intro @ex_builtin (And.intro @ex_callF (And.intro @ex_callV (And.intro @wanted_none (And.intro @wanted_some @ex_makeMap))))))))))))))))))))))))))))
def qc := And.intro @List.size_toArray.{0} (And.intro @List.length_cons.{0} (And.intro @List.length_nil.{0} (And.intro @List.getElem?_toArray.{0} (And.intro @List.getElem?_cons_zero.{0} (And.intro @List.getElem?_cons_succ.{0} (And.intro @Option.isNone_none.{0} (And.intro @List.map_toArray.{0,0} (And.intro @List.map_cons.{0,0} (And.intro @List.map_nil.{0,0} (And.intro @Option.bind_some.{0,0} (And.intro @beq_iff_eq.{0} (And.intro @Option.some.injEq.{0} (And.intro @List.setIfInBounds_toArray.{0} (And.intro @List.set_cons_succ.{0} (And.intro @List.set_cons_zero.{0} (And.intro @List.extract_toArray.{0} (And.intro @List.extract_eq_take_drop.{0} (And.intro @List.take_succ_cons.{0} (And.intro @List.take_zero.{0} (And.intro @List.drop_succ_cons.{0} (And.intro @List.drop_zero.{0} (And.intro @List.take_nil.{0} (And.intro @List.drop_nil.{0} (And.intro @List.cons_append.{0} (And.intro @List.nil_append.{0} (And.intro @List.append_assoc.{0} (And.intro @List.append_nil.{0} (And.intro @List.all_cons.{0} (And.intro @List.all_nil.{0} (And.intro @List.toList_toArray.{0} (And.intro @Option.map_none.{0,0} @Option.map_some.{0,0})))))))))))))))))))))))))))))))
def qd := And.intro @List.length_cons.{0} @List.length_nil.{0}
end Go.Proofs.YtiempdpjcddgfaaDoor
end
section
/- The maker of numbers: it gives numbers within bounds, and changes its own block alone. -/
set_option linter.unusedSimpArgs false
namespace Go.Proofs.YtiempdpjcddgfaaDoor
open Go Go.X
set_option linter.defProp false
def y11_12 := And.intro @callF28 (And.intro (fun H => conv_int (H := H) Tryd.underlying3 Tryd.underlying48) (fun H => conv_int (H := H) Tryd.underlying48 Tryd.underlying3))
def y13_12 := @callF11
def y28_12 := And.intro (fun H => fieldAt_eq (H := H) Tryd.underlying50 (i := 1) rfl (off := 1) rfl Tryd.sizeOf3) (And.intro (fun H => loadAt_one (H := H) Tryd.underlying3 rfl) (And.intro (fun H => conv_int (H := H) Tryd.underlying3 Tryd.underlying48) (And.intro (fun H => fieldAt_eq (H := H) Tryd.underlying50 (i := 0) rfl (off := 0) rfl Tryd.sizeOf22) (And.intro (fun H => loadAt_one (H := H) Tryd.underlying22 rfl) (And.intro (fun H => len_slice (H := H) Tryd.underlying22) (And.intro (fun H => indexAt_slice (H := H) Tryd.underlying22 Tryd.sizeOf3) (And.intro (fun H => storeAt_int (H := H) Tryd.sizeOf3) (And.intro (fun H => fieldAt_eq (H := H) Tryd.underlying50 (i := 2) rfl (off := 2) rfl Tryd.sizeOf48) (And.intro (fun H => loadAt_one (H := H) Tryd.underlying48 rfl) (fun H => storeAt_int (H := H) Tryd.sizeOf48))))))))))
def y48_12 := @callF11

/-- The tin lies in block b, and can give so many numbers more. -/
def TinI (H : Hp) (b k : Nat) : Prop :=
  ∃ (sa : Option Addr) (sl sc : Nat) (g st : Int), H b = some (true, .cells #[.slice sa sl sc, .int .i64 g, .int .u64 st] 50 (0, 0)) ∧ 0 ≤ g ∧ g + k ≤ 4611686018427387904 ∧
    ∀ i : Nat, i < sl → ∃ sb so c e fr x, sa = some ⟨sb, so, none⟩ ∧ H sb = some (false, .cells c e fr) ∧ c[so + i]? = some (.int .i64 x)

theorem TinI.new {H : Hp} {b k b2 : Nat} {o : Obj} (h : TinI H b k) (hb : H b2 = none) : TinI (H.set b2 o) b k := by
  obtain ⟨sa, sl, sc, g, st, h1, h2, h3, h4⟩ := h
  refine ⟨sa, sl, sc, g, st, Hp.le_set hb _ _ h1, h2, h3, fun i hi => ?_⟩
  obtain ⟨sb, so, c, e, fr, x, ha, hs, hx⟩ := h4 i hi
  exact ⟨sb, so, c, e, fr, x, ha, Hp.le_set hb _ _ hs, hx⟩
theorem TinI.own {H : Hp} {b k b2 : Nat} {o o' : Obj} (h : TinI H b k) (hb : H b2 = some (true, o)) (hn : b ≠ b2) : TinI (H.set b2 o') b k := by
  obtain ⟨sa, sl, sc, g, st, h1, h2, h3, h4⟩ := h
  refine ⟨sa, sl, sc, g, st, by rw [get_set, if_neg hn]; exact h1, h2, h3, fun i hi => ?_⟩
  obtain ⟨sb, so, c, e, fr, x, ha, hs, hx⟩ := h4 i hi
  exact ⟨sb, so, c, e, fr, x, ha, by rw [get_set, if_neg (fun e => by subst e; rw [hb] at hs; cases hs)]; exact hs, hx⟩
theorem TinI.less {H : Hp} {b k k' : Nat} (h : TinI H b k) (hk : k' ≤ k) : TinI H b k' := by
  obtain ⟨sa, sl, sc, g, st, h1, h2, h3, h4⟩ := h
  exact ⟨sa, sl, sc, g, st, h1, h2, by omega, h4⟩

theorem u64_range (n : Int) : 0 ≤ IntKind.u64.wrap n ∧ IntKind.u64.wrap n < 18446744073709551616 := by
  unfold IntKind.wrap
  simp only [IntKind.bits, IntKind.signed, Bool.false_and, Bool.false_eq_true, if_false]
  omega
theorem shr9 (x : Int) (h : 0 ≤ x) (h' : x < 18446744073709551616) : 0 ≤ x.fdiv (2 ^ (min (9 : Int).toNat IntKind.u64.bits)) ∧ x.fdiv (2 ^ (min (9 : Int).toNat IntKind.u64.bits)) < 36028797018963968 := by
  have e : (2 : Int) ^ (min (9 : Int).toNat IntKind.u64.bits) = 512 := rfl
  rw [e, Int.fdiv_eq_ediv_of_nonneg _ (by omega)]
  omega
theorem bitv_u64 (f : (n : Nat) → BitVec n → BitVec n → BitVec n) (x y : Int) : 0 ≤ bitv f .u64 x y ∧ bitv f .u64 x y < 18446744073709551616 := u64_range _

theorem next_spec (m : Bool) (H : Hp) (b k : Nat) (hT : TinI H b (k + 1)) :
    FnX Tryd.prog m 28 #[.pointer (some ⟨b, 0, none⟩)] H fun e H' => ∃ v : Int, 0 ≤ v ∧ v < 36028797018963968 ∧ e = .returned (.int .u64 v) ∧ ∃ o, H' = H.set b o ∧ TinI H' b k := by
  obtain ⟨sa, sl, sc, g, st, hb, hg, hg', hs⟩ := hT
  refine FnX_start Tryd.func28 rfl Tryd.ntmps28 (by simp) ?_
  (refine wpX_stmt ?_; intro K hK; simp -implicitDefEqProofs (disch := first | omega | (simp only [qd] <;> omega)) only [xq, ↓xp, qc, Nat.reduceAdd, List.range, List.range.loop, fine, Nat.reduceEqDiff, ↓reduceIte, yielded, reduceCtorEq, Nat.reduceLT, Nat.reduceMul, Nat.reduceSub, one, Nat.reduceLeDiff, runX_cons, y28_12]; refine hK _ _ ?_; clear hK K)
  (refine wpX_stmt ?_; intro K hK; simp -implicitDefEqProofs (disch := first | omega | (simp only [qd] <;> omega)) only [xq, ↓xp, qc, Nat.reduceAdd, List.range, List.range.loop, fine, Nat.reduceEqDiff, ↓reduceIte, yielded, reduceCtorEq, Nat.reduceLT, Nat.reduceMul, Nat.reduceSub, one, Nat.reduceLeDiff, runX_cons, y28_12, cell_of hb, exists_eq_left']; refine hK _ _ ?_; clear hK K)
  refine wpX_cut (fun a' H' => ∃ e x, a' = act 76 e [] ∧ H' = H ∧ e 0 = .pointer (some ⟨b, 0, none⟩) ∧ e 3 = .int .u64 x) ?_ ?_
  · refine wpX_dst0 10 [(true, 0), (true, 1), (true, 2), (true, 3), (true, 4), (true, 5), (true, 6), (true, 7), (true, 8), (true, 9)] (by kernel_rfl) (by kernel_rfl) (by simp) (by kernel_rfl) ?_; intro K hK
    iterate 10 (apply plan_take rfl rfl rfl; (focus (simp -implicitDefEqProofs (disch := first | omega | (simp only [qd] <;> omega)) only [xq, ↓xp, qc, Nat.reduceAdd, List.range, List.range.loop, fine, Nat.reduceEqDiff, ↓reduceIte, yielded, reduceCtorEq, Nat.reduceLT, Nat.reduceMul, Nat.reduceSub, one, Nat.reduceLeDiff, runX_cons, y28_12, cell_of hb, exists_eq_left', and_true, true_and] <;> (first | exact rfl | exact ⟨rfl, rfl⟩))); simp -implicitDefEqProofs (disch := first | omega | (simp only [qd] <;> omega)) only [act_put, act_put_none])
    refine plan_nil (hK _ _ ?_); clear hK K
    refine wpX_cond (by simp -implicitDefEqProofs (disch := first | omega | (simp only [qd] <;> omega)) only [act_eval, upd_get, Nat.reduceEqDiff, ↓reduceIte]; rfl) ?_
    by_cases hlt : g < sl
    · simp only [hlt, decide_true, if_true]
      obtain ⟨sb, so, c, e, fr, x, rfl, hsb, hcx⟩ := hs g.toNat (by omega)
      have hcx' : c[so + g.toNat * 1]? = some (.int .i64 x) := by simpa using hcx
      refine wpX_dst1 15 [(true, 0), (true, 1), (true, 2), (true, 3), (true, 4), (true, 5), (true, 6), (true, 7), (true, 8), (true, 9), (true, 10), (true, 11), (true, 12), (true, 13), (true, 14)] (by kernel_rfl) (by kernel_rfl) (by simp) (by kernel_rfl) ?_; intro K hK
      iterate 15 (apply plan_take rfl rfl rfl; (focus (simp -implicitDefEqProofs (disch := first | omega | (simp only [qd] <;> omega)) only [xq, ↓xp, qc, Nat.reduceAdd, List.range, List.range.loop, fine, Nat.reduceEqDiff, ↓reduceIte, yielded, reduceCtorEq, Nat.reduceLT, Nat.reduceMul, Nat.reduceSub, one, Nat.reduceLeDiff, runX_cons, y28_12, cell_of hb, cell_of hsb, hcx', exists_eq_left', and_true, true_and] <;> (first | exact rfl | exact ⟨rfl, rfl⟩))); simp -implicitDefEqProofs (disch := first | omega | (simp only [qd] <;> omega)) only [act_put, act_put_none])
      refine plan_nil (hK _ _ ?_); clear hK K
      exact ⟨_, _, rfl, rfl, rfl, rfl⟩
    · simp only [hlt, decide_false, Bool.false_eq_true, if_false]
      exact wpX_skip ⟨_, _, rfl, rfl, rfl, rfl⟩
  · rintro a' H' ⟨e, x, rfl, rfl, h0, h3⟩
    (refine wpX_stmt ?_; intro K hK; simp -implicitDefEqProofs (disch := first | omega | (simp only [qd] <;> omega)) only [xq, ↓xp, qc, Nat.reduceAdd, List.range, List.range.loop, fine, Nat.reduceEqDiff, ↓reduceIte, yielded, reduceCtorEq, Nat.reduceLT, Nat.reduceMul, Nat.reduceSub, one, Nat.reduceLeDiff, runX_cons, y28_12, h0, h3, cell_of hb, exists_eq_left', stor_at hb, true_and]; refine hK _ _ ?_; clear hK K)
    (refine wpX_stmt ?_; intro K hK; simp -implicitDefEqProofs (disch := first | omega | (simp only [qd] <;> omega)) only [xq, ↓xp, qc, Nat.reduceAdd, List.range, List.range.loop, fine, Nat.reduceEqDiff, ↓reduceIte, yielded, reduceCtorEq, Nat.reduceLT, Nat.reduceMul, Nat.reduceSub, one, Nat.reduceLeDiff, runX_cons, y28_12, h0, h3, exists_eq_left', true_and]; refine hK _ _ ?_; clear hK K)
    refine wpX_dst0 13 [(true, 0), (true, 1), (true, 2), (true, 3), (true, 4), (true, 5), (true, 6), (true, 7), (true, 8), (true, 9), (true, 10), (true, 11), (true, 12), (false, 13)] (by kernel_rfl) (by kernel_rfl) (by simp) (by kernel_rfl) ?_; intro K hK
    iterate 13 (apply plan_take rfl rfl rfl; (focus (simp -implicitDefEqProofs (disch := first | omega | (simp only [qd] <;> omega)) only [xq, ↓xp, qc, Nat.reduceAdd, List.range, List.range.loop, fine, Nat.reduceEqDiff, ↓reduceIte, yielded, reduceCtorEq, Nat.reduceLT, Nat.reduceMul, Nat.reduceSub, one, Nat.reduceLeDiff, runX_cons, y28_12, h0, h3, exists_eq_left', and_true, true_and] <;> (first | exact rfl | exact ⟨rfl, rfl⟩))); simp -implicitDefEqProofs (disch := first | omega | (simp only [qd] <;> omega)) only [act_put, act_put_none])
    refine plan_tail ?_
    simp -implicitDefEqProofs (disch := first | omega | (simp only [qd] <;> omega)) only [xq, ↓xp, qc, Nat.reduceAdd, List.range, List.range.loop, fine, Nat.reduceEqDiff, ↓reduceIte, yielded, reduceCtorEq, Nat.reduceLT, Nat.reduceMul, Nat.reduceSub, one, Nat.reduceLeDiff, runX_cons, y28_12, h0, h3, exists_eq_left', true_and]
    refine hK _ _ ?_; clear hK K
    (refine wpX_stmt ?_; intro K hK; simp -implicitDefEqProofs (disch := first | omega | (simp only [qd] <;> omega)) only [xq, ↓xp, qc, Nat.reduceAdd, List.range, List.range.loop, fine, Nat.reduceEqDiff, ↓reduceIte, yielded, reduceCtorEq, Nat.reduceLT, Nat.reduceMul, Nat.reduceSub, one, Nat.reduceLeDiff, runX_cons, y28_12, h0, h3, exists_eq_left', true_and]; refine hK _ _ ?_; clear hK K)
    (refine wpX_stmt ?_; intro K hK; simp -implicitDefEqProofs (disch := first | omega | (simp only [qd] <;> omega)) only [xq, ↓xp, qc, Nat.reduceAdd, List.range, List.range.loop, fine, Nat.reduceEqDiff, ↓reduceIte, yielded, reduceCtorEq, Nat.reduceLT, Nat.reduceMul, Nat.reduceSub, one, Nat.reduceLeDiff, runX_cons, y28_12, h0, h3, exists_eq_left', true_and]; refine hK _ _ ?_; clear hK K)
    (refine wpX_ret ?_; (try simp only [nq, ↓reduceIte, Nat.reduceEqDiff]); rw [bodyX_ret, results_one Tryd.results28 (by decide)]; simp only [upd_get, Nat.reduceEqDiff, ↓reduceIte])
    refine ⟨_, (shr9 _ (bitv_u64 _ _ _).1 (bitv_u64 _ _ _).2).1, (shr9 _ (bitv_u64 _ _ _).1 (bitv_u64 _ _ _).2).2, rfl, _, rfl, ?_⟩
    refine ⟨sa, sl, sc, g + 1, _, by rw [get_set, if_pos rfl], by omega, by omega, fun i hi => ?_⟩
    obtain ⟨sb, so, c, e', fr, x', h1, h2, h4⟩ := hs i hi
    exact ⟨sb, so, c, e', fr, x', h1, by rw [get_set, if_neg (fun h => by subst h; rw [hb] at h2; cases h2)]; exact h2, h4⟩

theorem upto_spec (m : Bool) (H : Hp) (b k : Nat) (n : Int) (hn : n < 36028797018963967) (hT : TinI H b (k + 1)) :
    FnX Tryd.prog m 11 #[.pointer (some ⟨b, 0, none⟩), .int .i64 n] H fun e H' => ∃ r : Int, 0 ≤ r ∧ (r ≤ n ∨ r = 0) ∧ e = .returned (.int .i64 r) ∧ ∃ o, H' = H.set b o ∧ TinI H' b k := by
  refine FnX_start Tryd.func11 rfl Tryd.ntmps11 (by simp) ?_
  (refine wpX_stmt ?_; intro K hK; simp -implicitDefEqProofs (disch := first | omega | (simp only [qd] <;> omega)) only [xq, ↓xp, qc, Nat.reduceAdd, List.range, List.range.loop, fine, Nat.reduceEqDiff, ↓reduceIte, yielded, reduceCtorEq, Nat.reduceLT, Nat.reduceMul, Nat.reduceSub, one, Nat.reduceLeDiff, runX_cons, y11_12]; refine hK _ _ ?_; clear hK K)
  (refine wpX_stmt ?_; intro K hK; simp -implicitDefEqProofs (disch := first | omega | (simp only [qd] <;> omega)) only [xq, ↓xp, qc, Nat.reduceAdd, List.range, List.range.loop, fine, Nat.reduceEqDiff, ↓reduceIte, yielded, reduceCtorEq, Nat.reduceLT, Nat.reduceMul, Nat.reduceSub, one, Nat.reduceLeDiff, runX_cons, y11_12])
  refine (next_spec m H b k hT).runs.mono ?_; rintro _ _ ⟨v, hv0, hv1, rfl, o, rfl, hT'⟩; simp -implicitDefEqProofs (disch := first | omega | (simp only [qd] <;> omega)) only [xq, ↓xp, qc, Nat.reduceAdd, List.range, List.range.loop, fine, Nat.reduceEqDiff, ↓reduceIte, yielded, reduceCtorEq, Nat.reduceLT, Nat.reduceMul, Nat.reduceSub, one, Nat.reduceLeDiff, runX_cons, y11_12]
  refine hK _ _ ?_; clear hK K
  refine wpX_cut (fun a' H' => ∃ e, 1 ≤ n ∧ a' = act 16 e [] ∧ H' = H.set b o ∧ e 1 = .int .i64 n ∧ e 5 = .int .u64 v) ?_ ?_
  · (refine wpX_stmt ?_; intro K hK; simp -implicitDefEqProofs (disch := first | omega | (simp only [qd] <;> omega)) only [xq, ↓xp, qc, Nat.reduceAdd, List.range, List.range.loop, fine, Nat.reduceEqDiff, ↓reduceIte, yielded, reduceCtorEq, Nat.reduceLT, Nat.reduceMul, Nat.reduceSub, one, Nat.reduceLeDiff, runX_cons, y11_12]; refine hK _ _ ?_; clear hK K)
    refine wpX_cond (by simp -implicitDefEqProofs (disch := first | omega | (simp only [qd] <;> omega)) only [act_eval, upd_get, Nat.reduceEqDiff, ↓reduceIte]; rfl) ?_
    by_cases h : n < 1
    · simp only [h, decide_true, if_true]
      (refine wpX_stmt ?_; intro K hK; simp -implicitDefEqProofs (disch := first | omega | (simp only [qd] <;> omega)) only [xq, ↓xp, qc, Nat.reduceAdd, List.range, List.range.loop, fine, Nat.reduceEqDiff, ↓reduceIte, yielded, reduceCtorEq, Nat.reduceLT, Nat.reduceMul, Nat.reduceSub, one, Nat.reduceLeDiff, runX_cons, y11_12]; refine hK _ _ ?_; clear hK K)
      refine wpX_ret ?_
      simp only [thn]
      rw [bodyX_ret, results_one Tryd.results11 (by decide)]
      exact ⟨0, by omega, .inr rfl, rfl, o, rfl, hT'⟩
    · simp only [h, decide_false, Bool.false_eq_true, if_false]
      exact wpX_skip ⟨_, by omega, rfl, rfl, rfl, rfl⟩
  · rintro a' H' ⟨e, h1, rfl, rfl, e1, e5⟩
    have hw : IntKind.u64.wrap n = n := IntWalk.u64_in n (by omega)
    have hw' : IntKind.u64.wrap (n + 1) = n + 1 := IntWalk.u64_in _ (by omega)
    have hm : v.tmod (n + 1) = v % (n + 1) := Int.tmod_eq_emod_of_nonneg hv0
    have hr0 := Int.emod_nonneg v (show n + 1 ≠ 0 by omega)
    have hr1 := Int.emod_lt_of_pos v (show 0 < n + 1 by omega)
    have hw2 : IntKind.i64.wrap (v % (n + 1)) = v % (n + 1) := IntWalk.i64_in _ (by omega)
    (refine wpX_stmt ?_; intro K hK; simp -implicitDefEqProofs (disch := first | omega | (simp only [qd] <;> omega)) only [xq, ↓xp, qc, Nat.reduceAdd, List.range, List.range.loop, fine, Nat.reduceEqDiff, ↓reduceIte, yielded, reduceCtorEq, Nat.reduceLT, Nat.reduceMul, Nat.reduceSub, one, Nat.reduceLeDiff, runX_cons, y11_12, e1, e5, hw, hw', hm, hw2]; refine hK _ _ ?_; clear hK K)
    (refine wpX_ret ?_; (try simp only [nq, ↓reduceIte, Nat.reduceEqDiff]); rw [bodyX_ret, results_one Tryd.results11 (by decide)]; simp only [upd_get, Nat.reduceEqDiff, ↓reduceIte])
    exact ⟨_, hr0, .inl (by omega), rfl, o, rfl, hT'⟩

theorem within_spec (m : Bool) (H : Hp) (b k : Nat) (lo hi : Int) (h0 : -1000000 ≤ lo) (h1 : lo ≤ 1000000) (h2 : -1000000 ≤ hi) (h3 : hi ≤ 1000000) (hT : TinI H b (k + 1)) :
    FnX Tryd.prog m 13 #[.pointer (some ⟨b, 0, none⟩), .int .i64 lo, .int .i64 hi] H fun e H' => ∃ r : Int, lo ≤ r ∧ (r ≤ hi ∨ r = lo) ∧ e = .returned (.int .i64 r) ∧ ∃ o, H' = H.set b o ∧ TinI H' b k := by
  refine FnX_start Tryd.func13 rfl Tryd.ntmps13 (by simp) ?_
  (refine wpX_stmt ?_; intro K hK; simp -implicitDefEqProofs (disch := first | omega | (simp only [qd] <;> omega)) only [xq, ↓xp, qc, Nat.reduceAdd, List.range, List.range.loop, fine, Nat.reduceEqDiff, ↓reduceIte, yielded, reduceCtorEq, Nat.reduceLT, Nat.reduceMul, Nat.reduceSub, one, Nat.reduceLeDiff, runX_cons, y13_12]; refine hK _ _ ?_; clear hK K)
  (refine wpX_stmt ?_; intro K hK; simp -implicitDefEqProofs (disch := first | omega | (simp only [qd] <;> omega)) only [xq, ↓xp, qc, Nat.reduceAdd, List.range, List.range.loop, fine, Nat.reduceEqDiff, ↓reduceIte, yielded, reduceCtorEq, Nat.reduceLT, Nat.reduceMul, Nat.reduceSub, one, Nat.reduceLeDiff, runX_cons, y13_12])
  refine (upto_spec m H b k (hi - lo) (by omega) hT).runs.mono ?_
  rintro _ _ ⟨r, hr0, hr1, rfl, o, rfl, hT'⟩
  have hr2 : r ≤ 2000000 := by omega
  simp -implicitDefEqProofs (disch := first | omega | (simp only [qd] <;> omega)) only [xq, ↓xp, qc, Nat.reduceAdd, List.range, List.range.loop, fine, Nat.reduceEqDiff, ↓reduceIte, yielded, reduceCtorEq, Nat.reduceLT, Nat.reduceMul, Nat.reduceSub, one, Nat.reduceLeDiff, runX_cons, y13_12]
  refine hK _ _ ?_; clear hK K
  (refine wpX_ret ?_; (try simp only [nq, ↓reduceIte, Nat.reduceEqDiff]); rw [bodyX_ret, results_one Tryd.results13 (by decide)]; simp only [upd_get, Nat.reduceEqDiff, ↓reduceIte])
  exact ⟨_, by omega, by omega, rfl, o, rfl, hT'⟩

theorem rarely_spec (m : Bool) (H : Hp) (b k : Nat) (n : Int) (h0 : -1000000 ≤ n) (h1 : n ≤ 1000000) (hT : TinI H b (k + 1)) :
    FnX Tryd.prog m 48 #[.pointer (some ⟨b, 0, none⟩), .int .i64 n] H fun e H' => ∃ r : Bool, e = .returned (.bool r) ∧ ∃ o, H' = H.set b o ∧ TinI H' b k := by
  refine FnX_start Tryd.func48 rfl Tryd.ntmps48 (by simp) ?_
  (refine wpX_stmt ?_; intro K hK; simp -implicitDefEqProofs (disch := first | omega | (simp only [qd] <;> omega)) only [xq, ↓xp, qc, Nat.reduceAdd, List.range, List.range.loop, fine, Nat.reduceEqDiff, ↓reduceIte, yielded, reduceCtorEq, Nat.reduceLT, Nat.reduceMul, Nat.reduceSub, one, Nat.reduceLeDiff, runX_cons, y48_12]; refine hK _ _ ?_; clear hK K)
  (refine wpX_stmt ?_; intro K hK; simp -implicitDefEqProofs (disch := first | omega | (simp only [qd] <;> omega)) only [xq, ↓xp, qc, Nat.reduceAdd, List.range, List.range.loop, fine, Nat.reduceEqDiff, ↓reduceIte, yielded, reduceCtorEq, Nat.reduceLT, Nat.reduceMul, Nat.reduceSub, one, Nat.reduceLeDiff, runX_cons, y48_12])
  refine (upto_spec m H b k (n - 1) (by omega) hT).runs.mono ?_; rintro _ _ ⟨r, hr0, hr1, rfl, o, rfl, hT'⟩; simp -implicitDefEqProofs (disch := first | omega | (simp only [qd] <;> omega)) only [xq, ↓xp, qc, Nat.reduceAdd, List.range, List.range.loop, fine, Nat.reduceEqDiff, ↓reduceIte, yielded, reduceCtorEq, Nat.reduceLT, Nat.reduceMul, Nat.reduceSub, one, Nat.reduceLeDiff, runX_cons, y48_12]
  refine hK _ _ ?_; clear hK K
  (refine wpX_ret ?_; (try simp only [nq, ↓reduceIte, Nat.reduceEqDiff]); rw [bodyX_ret, results_one Tryd.results48 (by decide)]; simp only [upd_get, Nat.reduceEqDiff, ↓reduceIte])
  exact ⟨_, rfl, o, rfl, hT'⟩
end Go.Proofs.YtiempdpjcddgfaaDoor
end
section
/- How lists of numbers lie in memory. -/
set_option linter.unusedSimpArgs false
set_option maxRecDepth 100000
namespace Go.Proofs.YtiempdpjcddgfaaDoor
open Go Go.X
set_option linter.defProp false
def y12_13 := And.intro (fun H => len_slice (H := H) Tryd.underlying22) (And.intro @callF11 (And.intro (fun H => indexAt_slice (H := H) Tryd.underlying22 Tryd.sizeOf3) (fun H => loadAt_one (H := H) Tryd.underlying3 rfl)))

/-- A slice that reads as a list of numbers. -/
def SlI (H : Hp) (v : Value) (xs : List Int) : Prop :=
  ∃ (a : Option Addr) (cap : Nat), v = .slice a xs.length cap ∧ xs.length ≤ cap ∧ ∀ (i : Nat) (x : Int), xs[i]? = some x → ∃ (b o : Nat) (p : Bool) (c : Array Value) (fr : Nat × Nat), a = some ⟨b, o, none⟩ ∧ H b = some (p, .cells c 3 fr) ∧ c[o + i]? = some (.int .i64 x)

theorem SlI.le {H H' : Hp} {v : Value} {xs : List Int} (h : SlI H v xs) (hl : H.le H') : SlI H' v xs := by
  obtain ⟨a, cap, hv, hc, h⟩ := h
  refine ⟨a, cap, hv, hc, fun i x hi => ?_⟩
  obtain ⟨b, o, p, c, fr, ha, hb, hx⟩ := h i x hi
  exact ⟨b, o, p, c, fr, ha, hl _ _ hb, hx⟩
theorem SlI.set {H : Hp} {v : Value} {xs : List Int} (h : SlI H v xs) {b : Nat} {o : Obj} (hb : ∀ p c fr, H b ≠ some (p, .cells c 3 fr)) : SlI (H.set b o) v xs := by
  obtain ⟨a, cap, hv, hc, h⟩ := h
  refine ⟨a, cap, hv, hc, fun i x hi => ?_⟩
  obtain ⟨b', o', p, c, fr, ha, hb', hx⟩ := h i x hi
  refine ⟨b', o', p, c, fr, ha, ?_, hx⟩
  rw [get_set, if_neg (fun e => hb p c fr (by rw [← e]; exact hb'))]
  exact hb'
theorem SlI.tin {H : Hp} {v : Value} {xs : List Int} (h : SlI H v xs) {b k : Nat} {o : Obj} (hT : TinI H b k) : SlI (H.set b o) v xs := by
  obtain ⟨sa, sl, sc, g, st, hb, _⟩ := hT
  exact h.set fun p c fr e => by rw [hb] at e; cases e
theorem SlI.nil (H : Hp) (a : Option Addr) (cap : Nat) : SlI H (.slice a 0 cap) [] := ⟨a, cap, rfl, Nat.zero_le _, fun i x hi => by simp at hi⟩
theorem SlI.cons {H : Hp} {v : Value} {xs : List Int} (h : SlI H v xs) (hx : xs ≠ []) : ∃ (b o cap : Nat) (p : Bool) (c : Array Value) (fr : Nat × Nat), v = .slice (some ⟨b, o, none⟩) xs.length cap ∧ xs.length ≤ cap ∧ H b = some (p, .cells c 3 fr) ∧ ∀ (i : Nat) (x : Int), xs[i]? = some x → c[o + i]? = some (.int .i64 x) := by
  obtain ⟨a, cap, hv, hc, h⟩ := h
  cases xs with
  | nil => exact absurd rfl hx
  | cons y ys =>
    obtain ⟨b, o, p, c, fr, rfl, hb, _⟩ := h 0 y rfl
    refine ⟨b, o, cap, p, c, fr, hv, hc, hb, fun i x hi => ?_⟩
    obtain ⟨b', o', p', c', fr', ha, hb', hx'⟩ := h i x hi
    simp only [Option.some.injEq, Addr.mk.injEq] at ha
    obtain ⟨rfl, rfl, _⟩ := ha
    rw [hb] at hb'
    simp only [Option.some.injEq, Prod.mk.injEq, Obj.cells.injEq] at hb'
    obtain ⟨_, rfl, _⟩ := hb'
    exact hx'

/-- Numbers as cells. -/
def ints (xs : List Int) : List Value := xs.map (Value.int .i64)
theorem ints_get {xs : List Int} {i : Nat} {x : Int} (h : xs[i]? = some x) : (ints xs)[i]? = some (.int .i64 x) := by simp [ints, h]
theorem ints_app (xs ys : List Int) : ints (xs ++ ys) = ints xs ++ ints ys := by simp [ints]
theorem ints_len (xs : List Int) : (ints xs).length = xs.length := by simp [ints]
theorem ints_one (xs : List Int) : ∀ u ∈ ints xs, one u = true := fun u hu => by
  simp only [ints, List.mem_map] at hu
  obtain ⟨x, _, rfl⟩ := hu
  rfl

theorem SlI.row {H₀ H : Hp} {v : Value} {n : Nat} {xs : List Int} (h : NewRow H₀ H v 3 1 n (ints xs)) : SlI H v xs := by
  have hl := h.len
  rw [ints_len, Nat.mul_one] at hl
  rcases h with ⟨rfl, rfl, hx, _⟩ | ⟨b, c, cap, hb, rfl, rfl, _, _, hc, hget⟩
  · have : xs = [] := by simpa [ints] using hx
    subst this
    exact SlI.nil _ _ _
  · refine ⟨_, cap, by rw [hl], by omega, fun i x hi => ⟨b, 0, true, c, (0, 0), rfl, by simp [get_set], ?_⟩⟩
    rw [Nat.zero_add]
    exact hget i _ (ints_get hi)

/-- One number more, in the walk's own form: the law of append at []int. -/
theorem append_ints {H₀ H : Hp} {v : Value} {n : Nat} {xs : List Int} (hrow : NewRow H₀ H v 3 1 n (ints xs)) {Hx : Hp} (hx : H.le Hx) {g o m cap : Nat} {ys : List Int} (hm : ys.length = m)
    (hg : H₀ g = none → H g = none) (hys : ∀ (j : Nat) (y : Int), ys[j]? = some y → Hx.cell ⟨g, o + j, none⟩ = some (.int .i64 y)) (hn : n + m ≤ 1073741824)
    (ty : TypeId) (cb : Array Bool) (K : Next → Hp → Prop) (E : Value → Hp → Prop)
    (h : ∀ v' H' H'', NewRow H₀ H' v' 3 1 (n + m) (ints (xs ++ ys)) → H'.le H'' → K (.value v') H'') :
    wpS Tryd.prog (builtin .append #[22, 22] ty cb #[v, .slice (some ⟨g, o, none⟩) m cap]) Hx K E := by
  refine append_law Tryd.underlying22 Tryd.sizeOf3 Tryd.zeroValue3 rfl Tryd.typeInfo3 (by decide) (by decide) hrow hx (news := ints ys) (by rw [ints_len, hm, Nat.mul_one]) hg (fun j u hj => ?_) (ints_one ys) hn ty cb K E (fun v' H' H'' h1 h2 => h v' H' H'' (by rw [ints_app]; exact h1) h2)
  simp only [ints, List.getElem?_map, Option.map_eq_some_iff] at hj
  obtain ⟨y, hy, rfl⟩ := hj
  exact hys j y hy

theorem either_spec (m : Bool) (H : Hp) (b k : Nat) (v : Value) (xs : List Int) (hv : SlI H v xs) (hne : xs ≠ []) (hl : xs.length ≤ 1000000) (hT : TinI H b (k + 1)) :
    FnX Tryd.prog m 12 #[.pointer (some ⟨b, 0, none⟩), v] H fun e H' => ∃ r : Int, r ∈ xs ∧ e = .returned (.int .i64 r) ∧ ∃ o, H' = H.set b o ∧ TinI H' b k := by
  have hpos : 0 < xs.length := List.length_pos_iff.2 hne
  obtain ⟨sb, so, cap, p, c, fr, rfl, _, hsb, hc⟩ := hv.cons hne
  have hbn : sb ≠ b := fun e => by
    obtain ⟨_, _, _, _, _, hb, _⟩ := hT
    rw [e, hb] at hsb
    cases hsb
  refine FnX_start Tryd.func12 rfl Tryd.ntmps12 (by simp) ?_
  (refine wpX_stmt ?_; intro K hK; simp -implicitDefEqProofs (disch := first | omega | (simp only [qd] <;> omega)) only [xq, ↓xp, qc, Nat.reduceAdd, List.range, List.range.loop, fine, Nat.reduceEqDiff, ↓reduceIte, yielded, reduceCtorEq, Nat.reduceLT, Nat.reduceMul, Nat.reduceSub, one, Nat.reduceLeDiff, runX_cons, y12_13]; refine hK _ _ ?_; clear hK K)
  (refine wpX_stmt ?_; intro K hK; simp -implicitDefEqProofs (disch := first | omega | (simp only [qd] <;> omega)) only [xq, ↓xp, qc, Nat.reduceAdd, List.range, List.range.loop, fine, Nat.reduceEqDiff, ↓reduceIte, yielded, reduceCtorEq, Nat.reduceLT, Nat.reduceMul, Nat.reduceSub, one, Nat.reduceLeDiff, runX_cons, y12_13])
  refine (upto_spec m H b k ((xs.length : Int) - 1) (by omega) hT).runs.mono ?_
  rintro _ _ ⟨r, hr0, hr1, rfl, o, rfl, hT'⟩
  have hr2 : r < xs.length := by omega
  have hrn : r.toNat < xs.length := by omega
  have hx := hc r.toNat xs[r.toNat] (List.getElem?_eq_getElem hrn)
  have hx' : c[so + r.toNat * 1]? = some (.int .i64 xs[r.toNat]) := by simpa using hx
  have hsb' : (H.set b o) sb = some (p, .cells c 3 fr) := by rw [get_set, if_neg hbn]; exact hsb
  simp -implicitDefEqProofs (disch := first | omega | (simp only [qd] <;> omega)) only [xq, ↓xp, qc, Nat.reduceAdd, List.range, List.range.loop, fine, Nat.reduceEqDiff, ↓reduceIte, yielded, reduceCtorEq, Nat.reduceLT, Nat.reduceMul, Nat.reduceSub, one, Nat.reduceLeDiff, runX_cons, y12_13, cell_of hsb', hx', exists_eq_left']
  refine hK _ _ ?_; clear hK K
  (refine wpX_ret ?_; (try simp only [nq, ↓reduceIte, Nat.reduceEqDiff]); rw [bodyX_ret, results_one Tryd.results12 (by decide)]; simp only [upd_get, Nat.reduceEqDiff, ↓reduceIte])
  exact ⟨_, List.getElem_mem hrn, rfl, o, rfl, hT'⟩
end Go.Proofs.YtiempdpjcddgfaaDoor
end
section
/- The makers of vaults and hauls. -/
set_option linter.unusedSimpArgs false
set_option maxRecDepth 100000
set_option maxHeartbeats 1000000
set_option linter.unusedVariables false
namespace Go.Proofs.YtiempdpjcddgfaaDoor
open Go Go.X
set_option linter.defProp false
def y14_14 := And.intro (fun H => ex_alloc (H := H) (P := Tryd.prog) (h := Tryd.zeroValue27)) (And.intro @callF13 (And.intro @bld_27_0_1_0 (fun H => storeAt_agg (H := H) Tryd.sizeOf27)))
def y24_14 := And.intro (fun H => makeSlice_one (H := H) Tryd.underlying22 Tryd.sizeOf3 Tryd.zeroValue3 rfl Tryd.typeInfo3 (by decide)) (And.intro @callF11 (And.intro (fun H => indexAt_slice (H := H) Tryd.underlying22 Tryd.sizeOf3) (And.intro (fun H => loadAt_one (H := H) Tryd.underlying3 rfl) (fun H => storeAt_int (H := H) Tryd.sizeOf3))))
def y25_14 := (fun H => buildSlice0 (H := H) Tryd.underlying22 Tryd.sizeOf3)
def y49_14 := And.intro (fun H => len_slice (H := H) Tryd.underlying22) (And.intro (fun H => indexAt_slice (H := H) Tryd.underlying22 Tryd.sizeOf3) (fun H => loadAt_one (H := H) Tryd.underlying3 rfl))

/-- All but one block is as it was, and nothing is gone. -/
def Lex (b : Option Nat) (H H' : Hp) : Prop := ∀ x v, H x = some v → ∃ v', H' x = some v' ∧ (b ≠ some x → v' = v)
theorem Lex.refl {b : Option Nat} {H : Hp} : Lex b H H := fun _ v h => ⟨v, h, fun _ => rfl⟩
theorem Lex.trans {b : Option Nat} {H H' H'' : Hp} (h : Lex b H H') (h' : Lex b H' H'') : Lex b H H'' := fun x v hx => by
  obtain ⟨v1, h1, e1⟩ := h x v hx
  obtain ⟨v2, h2, e2⟩ := h' x v1 h1
  exact ⟨v2, h2, fun hn => (e2 hn).trans (e1 hn)⟩
theorem Lex.hold {b : Option Nat} {b' : Nat} {H H' : Hp} {v : Bool × Obj} (h : Lex b H H') (hx : H b' = some v) (hn : b ≠ some b') : H' b' = some v := by
  obtain ⟨v', h', e⟩ := h _ _ hx
  rw [h', e hn]
theorem Lex.keeps {b b' : Nat} {H H' : Hp} {v : Bool × Obj} (h : Lex (some b) H H') (hx : H b' = some v) (hn : b' ≠ b) : H' b' = some v := h.hold hx (fun e => hn (Option.some.inj e).symm)
theorem Lex.of {b : Option Nat} {H H' : Hp} (h : H.le H') : Lex b H H' := fun x v hx => ⟨v, h _ _ hx, fun _ => rfl⟩
theorem Lex.toLe {H H' : Hp} (h : Lex none H H') : H.le H' := fun _ _ hx => h.hold hx (by simp)
theorem Lex.gone {b : Option Nat} {H H' : Hp} (h : Lex b H H') {x : Nat} (hx : H' x = none) : H x = none := by
  cases e : H x with
  | none => rfl
  | some v => obtain ⟨v', h', _⟩ := h x v e; rw [hx] at h'; cases h'
theorem Lex.set {b : Nat} {H H' : Hp} {o : Obj} (h : Lex (some b) H H') : Lex (some b) H (H'.set b o) := fun x v hx => by
  obtain ⟨v', h', e⟩ := h x v hx
  by_cases hxb : x = b
  · exact ⟨_, by rw [get_set, if_pos hxb], fun hn => absurd (by rw [hxb]) hn⟩
  · exact ⟨v', by rw [get_set, if_neg hxb]; exact h', e⟩
theorem Lex.le {b : Option Nat} {H H' H'' : Hp} (h : Lex b H H') (hl : H'.le H'') : Lex b H H'' := h.trans (Lex.of hl)
theorem Lex.new {b : Option Nat} {b' : Nat} {H H' : Hp} {o : Obj} (h : Lex b H H') (hb : H' b' = none) : Lex b H (H'.set b' o) := h.le (Hp.le_set hb)
/-- .. what was made since may be changed. -/
theorem Lex.own {b : Option Nat} {b' : Nat} {H H' : Hp} {o : Obj} (h : Lex b H H') (hb : H b' = none) : Lex b H (H'.set b' o) := fun x v hx => by
  obtain ⟨v', h', e⟩ := h x v hx
  exact ⟨v', by rw [get_set, if_neg (fun e => by rw [e, hb] at hx; cases hx)]; exact h', e⟩
theorem SlI.lex {H H' : Hp} {v : Value} {xs : List Int} (h : SlI H v xs) {b k : Nat} (hl : Lex (some b) H H') (hT : TinI H b k) : SlI H' v xs := by
  obtain ⟨a, cap, hv, hc, h⟩ := h
  refine ⟨a, cap, hv, hc, fun i x hi => ?_⟩
  obtain ⟨b', o, p, c, fr, ha, hb, hx⟩ := h i x hi
  refine ⟨b', o, p, c, fr, ha, hl.keeps hb (fun e => ?_), hx⟩
  obtain ⟨_, _, _, _, _, hb2, _⟩ := hT
  rw [e, hb2] at hb; cases hb
theorem TinI.ne {H : Hp} {b b' k : Nat} (h : TinI H b k) (hb : H b' = none) : b' ≠ b := fun e => by
  obtain ⟨_, _, _, _, _, hb2, _⟩ := h
  rw [e, hb2] at hb; cases hb
theorem TinI.neI {H : Hp} {b b' k : Nat} {p : Bool} {c : Array Value} {fr : Nat × Nat} (h : TinI H b k) (hb : H b' = some (p, .cells c 3 fr)) : b' ≠ b := fun e => by
  obtain ⟨_, _, _, _, _, hb2, _⟩ := h
  rw [e, hb2] at hb; cases hb

theorem ints_set (xs : List Int) (j : Nat) (x : Int) : (ints xs).toArray.setIfInBounds j (.int .i64 x) = (ints (xs.set j x)).toArray := by
  simp [ints, List.map_set]
theorem ints_setL (xs : List Int) (j : Nat) (x : Int) : (ints xs).set j (.int .i64 x) = ints (xs.set j x) := by
  simp [ints, List.map_set]
theorem ints_at {xs : List Int} {j : Nat} (h : j < xs.length) : (ints xs).toArray[j]? = some (.int .i64 xs[j]) := by
  simp [ints, h]

/-- The first j of n numbers are 0 .. j-1 in some order. -/
def MixOk (n j : Nat) (xs : List Int) : Prop :=
  xs.length = n ∧ (∀ i, i < j → ∃ x, xs[i]? = some x ∧ 0 ≤ x ∧ x < j) ∧ ∀ i i' x, i < j → i' < j → xs[i]? = some x → xs[i']? = some x → i = i'
theorem MixOk.step {n j r : Nat} {xs : List Int} (h : MixOk n j xs) (hj : j < n) (hr : r ≤ j) {y : Int} (hy : xs[r]? = some y) : MixOk n (j + 1) ((xs.set j y).set r j) := by
  obtain ⟨hl, h1, h2⟩ := h
  have hg : ∀ i, i < j + 1 → ((xs.set j y).set r (j : Int))[i]? = if i = r then some (j : Int) else if i = j then some y else xs[i]? := by
    intro i hi
    rw [List.getElem?_set, List.getElem?_set, List.length_set]
    by_cases e : i = r
    · subst e; rw [if_pos rfl, if_pos rfl, if_pos (by omega)]
    · rw [if_neg (fun h => e h.symm), if_neg e]
      by_cases e' : i = j
      · subst e'; rw [if_pos rfl, if_pos rfl, if_pos (by omega)]
      · rw [if_neg (fun h => e' h.symm), if_neg e']
  refine ⟨by simp [hl], fun i hi => ?_, fun i i' x hi hi' hx hx' => ?_⟩
  · rw [hg i hi]
    by_cases e : i = r
    · exact ⟨j, by simp [e], by omega, by omega⟩
    · rw [if_neg e]
      by_cases e' : i = j
      · rw [if_pos e']
        obtain ⟨x, hx, h0, h0'⟩ := h1 r (by omega)
        rw [hy] at hx; cases hx
        exact ⟨y, rfl, h0, by omega⟩
      · rw [if_neg e']
        obtain ⟨x, hx, h0, h0'⟩ := h1 i (by omega)
        exact ⟨x, hx, h0, by omega⟩
  · rw [hg i hi] at hx
    rw [hg i' hi'] at hx'
    have lo : ∀ i x, i < j → xs[i]? = some x → x < j := fun i x hi hx => by
      obtain ⟨x', hx', _, h⟩ := h1 i hi
      rw [hx] at hx'; cases hx'; exact h
    by_cases e : i = r <;> by_cases e' : i' = r <;> simp only [e, e', if_true, if_false] at hx hx' ⊢
    · exfalso
      cases hx
      by_cases f : i' = j
      · rw [if_pos f] at hx'; cases hx'
        have := lo r j (by omega) hy
        omega
      · rw [if_neg f] at hx'
        have := lo i' j (by omega) hx'
        omega
    · exfalso
      cases hx'
      by_cases f : i = j
      · rw [if_pos f] at hx; cases hx
        have := lo r j (by omega) hy
        omega
      · rw [if_neg f] at hx
        have := lo i j (by omega) hx
        omega
    · by_cases f : i = j <;> by_cases f' : i' = j <;> simp only [f, f', if_true, if_false] at hx hx' ⊢
      · cases hx
        exfalso
        exact e' (h2 i' r y (by omega) (by omega) hx' hy)
      · cases hx'
        exfalso
        exact e (h2 i r y (by omega) (by omega) hx hy)
      · exact h2 i i' x (by omega) (by omega) hx hx'
theorem MixOk.nodup {n : Nat} {xs : List Int} (h : MixOk n n xs) : xs.length = n ∧ xs.Nodup ∧ ∀ x ∈ xs, 0 ≤ x ∧ x < n := by
  obtain ⟨hl, h1, h2⟩ := h
  refine ⟨hl, ?_, fun x hx => ?_⟩
  · rw [List.Nodup, List.pairwise_iff_getElem]
    intro i j hi hj hlt e
    have := h2 i j xs[i] (by omega) (by omega) (List.getElem?_eq_getElem hi) (by rw [List.getElem?_eq_getElem hj, e])
    omega
  · obtain ⟨i, hi, rfl⟩ := List.getElem_of_mem hx
    obtain ⟨x, hx, h⟩ := h1 i (by omega)
    rw [List.getElem?_eq_getElem hi] at hx
    cases hx
    exact h

theorem mixed_spec (m : Bool) (H : Hp) (b k : Nat) (n : Nat) (hn : n ≤ 1000) (hT : TinI H b (k + n)) :
    FnX Tryd.prog m 24 #[.pointer (some ⟨b, 0, none⟩), .int .i64 n] H fun e H' => ∃ v xs, e = .returned v ∧ SlI H' v xs ∧ xs.length = n ∧ xs.Nodup ∧ (∀ x ∈ xs, 0 ≤ x ∧ x < n) ∧ Lex (some b) H H' ∧ TinI H' b k := by
  refine FnX_start Tryd.func24 rfl Tryd.ntmps24 (by simp) ?_
  (refine wpX_stmt ?_; intro K hK; simp -implicitDefEqProofs (disch := first | omega | (simp only [qd] <;> omega)) only [xq, ↓xp, qc, Nat.reduceAdd, List.range, List.range.loop, fine, Nat.reduceEqDiff, ↓reduceIte, yielded, reduceCtorEq, Nat.reduceLT, Nat.reduceMul, Nat.reduceSub, one, Nat.reduceLeDiff, runX_cons, y24_14]; refine hK _ _ ?_; clear hK K)
  (refine wpX_stmt ?_; intro K hK; simp -implicitDefEqProofs (disch := first | omega | (simp only [qd] <;> omega)) only [xq, ↓xp, qc, Nat.reduceAdd, List.range, List.range.loop, fine, Nat.reduceEqDiff, ↓reduceIte, yielded, reduceCtorEq, Nat.reduceLT, Nat.reduceMul, Nat.reduceSub, one, Nat.reduceLeDiff, runX_cons, y24_14])
  intro lb hlb
  refine hK _ _ ?_; clear hK K
  have hlbn : lb ≠ b := hT.ne hlb
  refine wpX_seq ?_
  (refine wpX_stmt ?_; intro K hK; simp -implicitDefEqProofs (disch := first | omega | (simp only [qd] <;> omega)) only [xq, ↓xp, qc, Nat.reduceAdd, List.range, List.range.loop, fine, Nat.reduceEqDiff, ↓reduceIte, yielded, reduceCtorEq, Nat.reduceLT, Nat.reduceMul, Nat.reduceSub, one, Nat.reduceLeDiff, runX_cons, y24_14]; refine hK _ _ ?_; clear hK K)
  refine wpX_block (wpX_loop (fun w a' H' => ∃ e j xs, w = n - j ∧ j ≤ n ∧ a' = act 30 e [] ∧ e 0 = .pointer (some ⟨b, 0, none⟩) ∧ e 1 = .int .i64 n ∧ e 5 = .slice (some ⟨lb, 0, none⟩) n n ∧ e 6 = .int .i64 j ∧
    H' lb = some (true, .cells (ints xs).toArray 3 (0, 0)) ∧ Lex (some b) H H' ∧ TinI H' b (k + (n - j)) ∧ MixOk n j xs) (n := n) ?_ ?_)
  · exact ⟨_, 0, List.replicate n 0, by omega, by omega, rfl, rfl, rfl, rfl, rfl, by rw [get_set, if_pos rfl]; simp [ints], Lex.refl.new hlb, (hT.new hlb).less (by omega), by simp, fun i hi => by omega, fun i i' x hi => by omega⟩
  · rintro w a' H' ⟨e, j, xs, rfl, hj, rfl, e0, e1, e5, e6, hlb', hlex, hT', hM⟩
    refine wpX_seq ?_
    (refine wpX_stmt ?_; intro K hK; simp -implicitDefEqProofs (disch := first | omega | (simp only [qd] <;> omega)) only [xq, ↓xp, qc, Nat.reduceAdd, List.range, List.range.loop, fine, Nat.reduceEqDiff, ↓reduceIte, yielded, reduceCtorEq, Nat.reduceLT, Nat.reduceMul, Nat.reduceSub, one, Nat.reduceLeDiff, runX_cons, y24_14, e0, e1, e5, e6]; refine hK _ _ ?_; clear hK K)
    refine wpX_cond (by simp -implicitDefEqProofs (disch := first | omega | (simp only [qd] <;> omega)) only [act_eval, upd_get, Nat.reduceEqDiff, ↓reduceIte]; rfl) ?_
    by_cases hlt : j < n
    · simp only [Int.ofNat_lt, hlt, decide_true, if_true]
      refine wpX_skip (wpX_seq (wpX_block ?_))
      (refine wpX_stmt ?_; intro K hK; simp -implicitDefEqProofs (disch := first | omega | (simp only [qd] <;> omega)) only [xq, ↓xp, qc, Nat.reduceAdd, List.range, List.range.loop, fine, Nat.reduceEqDiff, ↓reduceIte, yielded, reduceCtorEq, Nat.reduceLT, Nat.reduceMul, Nat.reduceSub, one, Nat.reduceLeDiff, runX_cons, y24_14, e0, e1, e5, e6])
      refine (upto_spec m H' b (k + (n - (j + 1))) (j : Int) (by omega) (by rw [show k + (n - (j + 1)) + 1 = k + (n - j) by omega]; exact hT')).runs.mono ?_
      rintro _ _ ⟨r, hr0, hr1, rfl, o, rfl, hT2⟩
      simp -implicitDefEqProofs (disch := first | omega | (simp only [qd] <;> omega)) only [xq, ↓xp, qc, Nat.reduceAdd, List.range, List.range.loop, fine, Nat.reduceEqDiff, ↓reduceIte, yielded, reduceCtorEq, Nat.reduceLT, Nat.reduceMul, Nat.reduceSub, one, Nat.reduceLeDiff, runX_cons, y24_14]
      refine hK _ _ ?_; clear hK K
      obtain ⟨r, rfl⟩ := Int.eq_ofNat_of_zero_le hr0
      have hrj : r ≤ j := by omega
      have hrn : r < n := by omega
      have hl := hM.1
      have hlb2 : (H'.set b o) lb = some (true, .cells (ints xs).toArray 3 (0, 0)) := by rw [get_set, if_neg hlbn]; exact hlb'
      have hx := ints_at (xs := xs) (j := r) (by omega)
      (refine wpX_stmt ?_; intro K hK; simp -implicitDefEqProofs (disch := first | omega | (simp only [qd] <;> omega)) only [xq, ↓xp, qc, Nat.reduceAdd, List.range, List.range.loop, fine, Nat.reduceEqDiff, ↓reduceIte, yielded, reduceCtorEq, Nat.reduceLT, Nat.reduceMul, Nat.reduceSub, one, Nat.reduceLeDiff, runX_cons, y24_14, e0, e1, e5, e6, cell_of hlb2, stor_at hlb2, Int.toNat_natCast, Nat.mul_one, hx, exists_eq_left', ints_setL, ints_len, hl, hlt, hrn]; refine hK _ _ ?_; clear hK K)
      (refine wpX_last ?_; intro K hK; simp -implicitDefEqProofs (disch := first | omega | (simp only [qd] <;> omega)) only [xq, ↓xp, qc, Nat.reduceAdd, List.range, List.range.loop, fine, Nat.reduceEqDiff, ↓reduceIte, yielded, reduceCtorEq, Nat.reduceLT, Nat.reduceMul, Nat.reduceSub, one, Nat.reduceLeDiff, runX_cons, y24_14, e0, e1, e5, e6, Int.toNat_natCast, Nat.mul_one, ints_setL, ints_len, List.length_set, hl, hlt, hrn, set_set]; refine hK _ _ ?_; clear hK K)
      (refine wpX_last ?_; intro K hK; simp -implicitDefEqProofs (disch := first | omega | (simp only [qd] <;> omega)) only [xq, ↓xp, qc, Nat.reduceAdd, List.range, List.range.loop, fine, Nat.reduceEqDiff, ↓reduceIte, yielded, reduceCtorEq, Nat.reduceLT, Nat.reduceMul, Nat.reduceSub, one, Nat.reduceLeDiff, runX_cons, y24_14, e0, e1, e5, e6, Int.toNat_natCast, Nat.mul_one]; refine hK _ _ ?_; clear hK K)
      simp -implicitDefEqProofs (disch := first | omega | (simp only [qd] <;> omega)) only [thn, blk, ↓reduceIte, Nat.reduceEqDiff]
      refine ⟨_, ?_, _, j + 1, (xs.set j xs[r]).set r j, rfl, hlt, rfl, e0, e1, e5, rfl, by rw [get_set, if_pos rfl], (hlex.set.own hlb), (hT2.own hlb2 (Ne.symm hlbn)).less (by omega), hM.step hlt hrj (List.getElem?_eq_getElem _)⟩
      omega
    · simp only [Int.ofNat_lt, hlt, decide_false, Bool.false_eq_true, if_false]
      (refine wpX_exit ?_; simp only [thn, blk, ↓reduceIte, Nat.reduceEqDiff])
      (refine wpX_stmt ?_; intro K hK; simp -implicitDefEqProofs (disch := first | omega | (simp only [qd] <;> omega)) only [xq, ↓xp, qc, Nat.reduceAdd, List.range, List.range.loop, fine, Nat.reduceEqDiff, ↓reduceIte, yielded, reduceCtorEq, Nat.reduceLT, Nat.reduceMul, Nat.reduceSub, one, Nat.reduceLeDiff, runX_cons, y24_14, e5]; refine hK _ _ ?_; clear hK K)
      (refine wpX_ret ?_; (try simp only [nq, ↓reduceIte, Nat.reduceEqDiff]); rw [bodyX_ret, results_one Tryd.results24 (by decide)]; simp only [upd_get, Nat.reduceEqDiff, ↓reduceIte])
      have : j = n := by omega
      subst this
      obtain ⟨hl, hnd, hb⟩ := hM.nodup
      exact ⟨_, xs, rfl, ⟨_, _, by rw [hl], by omega, fun i x hi => ⟨lb, 0, true, _, _, rfl, hlb', by rw [Nat.zero_add]; simpa using ints_get hi⟩⟩, hl, hnd, hb, hlex, hT'.less (by omega)⟩

/-! ### the maker's contracts once more, with what stays instead of what is changed -/
theorem uptoL (m : Bool) (H : Hp) (b k : Nat) (n : Int) (hn : n < 36028797018963967) (hT : TinI H b (k + 1)) :
    FnX Tryd.prog m 11 #[.pointer (some ⟨b, 0, none⟩), .int .i64 n] H fun e H' => ∃ r : Int, 0 ≤ r ∧ (r ≤ n ∨ r = 0) ∧ e = .returned (.int .i64 r) ∧ Lex (some b) H H' ∧ TinI H' b k :=
  (upto_spec m H b k n hn hT).mono fun _ _ ⟨r, h0, h1, he, _, hH, hT'⟩ => ⟨r, h0, h1, he, hH ▸ Lex.refl.set, hT'⟩
theorem withinL (m : Bool) (H : Hp) (b k : Nat) (lo hi : Int) (h0 : -1000000 ≤ lo) (h1 : lo ≤ 1000000) (h2 : -1000000 ≤ hi) (h3 : hi ≤ 1000000) (hT : TinI H b (k + 1)) :
    FnX Tryd.prog m 13 #[.pointer (some ⟨b, 0, none⟩), .int .i64 lo, .int .i64 hi] H fun e H' => ∃ r : Int, lo ≤ r ∧ (r ≤ hi ∨ r = lo) ∧ e = .returned (.int .i64 r) ∧ Lex (some b) H H' ∧ TinI H' b k :=
  (within_spec m H b k lo hi h0 h1 h2 h3 hT).mono fun _ _ ⟨r, h0, h1, he, _, hH, hT'⟩ => ⟨r, h0, h1, he, hH ▸ Lex.refl.set, hT'⟩
theorem rarelyL (m : Bool) (H : Hp) (b k : Nat) (n : Int) (h0 : -1000000 ≤ n) (h1 : n ≤ 1000000) (hT : TinI H b (k + 1)) :
    FnX Tryd.prog m 48 #[.pointer (some ⟨b, 0, none⟩), .int .i64 n] H fun e H' => ∃ r : Bool, e = .returned (.bool r) ∧ Lex (some b) H H' ∧ TinI H' b k :=
  (rarely_spec m H b k n h0 h1 hT).mono fun _ _ ⟨r, he, _, hH, hT'⟩ => ⟨r, he, hH ▸ Lex.refl.set, hT'⟩
theorem eitherL (m : Bool) (H : Hp) (b k : Nat) (v : Value) (xs : List Int) (hv : SlI H v xs) (hne : xs ≠ []) (hl : xs.length ≤ 1000000) (hT : TinI H b (k + 1)) :
    FnX Tryd.prog m 12 #[.pointer (some ⟨b, 0, none⟩), v] H fun e H' => ∃ r : Int, r ∈ xs ∧ e = .returned (.int .i64 r) ∧ Lex (some b) H H' ∧ TinI H' b k :=
  (either_spec m H b k v xs hv hne hl hT).mono fun _ _ ⟨r, h0, he, _, hH, hT'⟩ => ⟨r, h0, he, hH ▸ Lex.refl.set, hT'⟩
theorem set_at {H : Hp} {b : Nat} {o : Obj} : (H.set b o) b = some (true, o) := by rw [get_set, if_pos rfl]
theorem set_ne {H : Hp} {b b' : Nat} {o : Obj} (h : b' ≠ b) : (H.set b o) b' = H b' := by rw [get_set, if_neg h]
/-- A literal of numbers, just made. -/
theorem SlI.lit {H : Hp} {b : Nat} {vs : List Value} (xs : List Int) (h : vs = ints xs) {n : Nat} (hn : xs.length = n) : SlI (H.set b (.cells vs.toArray 3 (0, 0))) (.slice (some ⟨b, 0, none⟩) n n) xs :=
  ⟨_, _, by rw [hn], by omega, fun i x hi => ⟨b, 0, true, _, _, rfl, set_at, by rw [Nat.zero_add, h]; simpa using ints_get hi⟩⟩

theorem bandIn_spec (m : Bool) (H : Hp) (b k : Nat) (lo hi : Int) (h0 : 0 ≤ lo) (h1 : lo ≤ hi) (h2 : hi ≤ 1000) (hT : TinI H b (k + 2)) :
    FnX Tryd.prog m 14 #[.pointer (some ⟨b, 0, none⟩), .int .i64 lo, .int .i64 hi] H fun e H' => ∃ x y, lo ≤ x ∧ x ≤ y ∧ y ≤ hi ∧ e = .returned (.agg #[.int .i64 x, .int .i64 y]) ∧ Lex (some b) H H' ∧ TinI H' b k := by
  refine FnX_start Tryd.func14 rfl Tryd.ntmps14 (by simp) ?_
  (refine wpX_stmt ?_; intro K hK; simp -implicitDefEqProofs (disch := first | omega | (simp only [qd] <;> omega)) only [xq, ↓xp, qc, Nat.reduceAdd, List.range, List.range.loop, fine, Nat.reduceEqDiff, ↓reduceIte, yielded, reduceCtorEq, Nat.reduceLT, Nat.reduceMul, Nat.reduceSub, one, Nat.reduceLeDiff, runX_cons, y14_14])
  intro nb hnb
  refine hK _ _ ?_; clear hK K
  have hn := hT.ne hnb
  (refine wpX_stmt ?_; intro K hK; simp -implicitDefEqProofs (disch := first | omega | (simp only [qd] <;> omega)) only [xq, ↓xp, qc, Nat.reduceAdd, List.range, List.range.loop, fine, Nat.reduceEqDiff, ↓reduceIte, yielded, reduceCtorEq, Nat.reduceLT, Nat.reduceMul, Nat.reduceSub, one, Nat.reduceLeDiff, runX_cons, y14_14])
  refine (withinL m _ b (k + 1) lo hi (by omega) (by omega) (by omega) (by omega) (hT.new hnb)).runs.mono ?_; rintro _ _ ⟨x, hx0, hx1, rfl, hl1, hT1⟩; simp -implicitDefEqProofs (disch := first | omega | (simp only [qd] <;> omega)) only [xq, ↓xp, qc, Nat.reduceAdd, List.range, List.range.loop, fine, Nat.reduceEqDiff, ↓reduceIte, yielded, reduceCtorEq, Nat.reduceLT, Nat.reduceMul, Nat.reduceSub, one, Nat.reduceLeDiff, runX_cons, y14_14]
  refine hK _ _ ?_; clear hK K
  (refine wpX_stmt ?_; intro K hK; simp -implicitDefEqProofs (disch := first | omega | (simp only [qd] <;> omega)) only [xq, ↓xp, qc, Nat.reduceAdd, List.range, List.range.loop, fine, Nat.reduceEqDiff, ↓reduceIte, yielded, reduceCtorEq, Nat.reduceLT, Nat.reduceMul, Nat.reduceSub, one, Nat.reduceLeDiff, runX_cons, y14_14])
  refine (withinL m _ b k x hi (by omega) (by omega) (by omega) (by omega) hT1).runs.mono ?_; rintro _ _ ⟨y, hy0, hy1, rfl, hl2, hT2⟩; simp -implicitDefEqProofs (disch := first | omega | (simp only [qd] <;> omega)) only [xq, ↓xp, qc, Nat.reduceAdd, List.range, List.range.loop, fine, Nat.reduceEqDiff, ↓reduceIte, yielded, reduceCtorEq, Nat.reduceLT, Nat.reduceMul, Nat.reduceSub, one, Nat.reduceLeDiff, runX_cons, y14_14]
  have hb2 := hl2.keeps (hl1.keeps set_at hn) hn
  simp -implicitDefEqProofs (disch := first | omega | (simp only [qd] <;> omega)) only [xq, ↓xp, qc, Nat.reduceAdd, List.range, List.range.loop, fine, Nat.reduceEqDiff, ↓reduceIte, yielded, reduceCtorEq, Nat.reduceLT, Nat.reduceMul, Nat.reduceSub, one, Nat.reduceLeDiff, runX_cons, y14_14, storL_of hb2, List.append_eq]
  refine hK _ _ ?_; clear hK K
  (refine wpX_ret ?_; (try simp only [nq, ↓reduceIte, Nat.reduceEqDiff]); rw [bodyX_ret, results_cell Tryd.results14 (by decide) (b := nb) (o := 0) rfl Tryd.underlying27 rfl Tryd.sizeOf27]; simp -implicitDefEqProofs (disch := first | omega | (simp only [qd] <;> omega)) only [xq, ↓xp, qc, Nat.reduceAdd, List.range, List.range.loop, fine, Nat.reduceEqDiff, ↓reduceIte, yielded, reduceCtorEq, Nat.reduceLT, Nat.reduceMul, Nat.reduceSub, one, Nat.reduceLeDiff, runX_cons, y14_14, loadA_set])
  exact ⟨x, y, by omega, by omega, by omega, rfl, (Lex.refl.new hnb).trans (hl1.trans hl2) |>.own hnb, hT2.own hb2 hn.symm⟩

theorem keepInts_spec (m : Bool) (H : Hp) (g o n cap : Nat) (ys : List Int) (hys : ∀ (j : Nat) (y : Int), ys[j]? = some y → H.cell ⟨g, o + j, none⟩ = some (.int .i64 y)) (hn : ys.length = n) (hb : n ≤ 1000000) (hg : ∃ x, H g = some x) :
    FnX Tryd.prog m 25 #[.slice (some ⟨g, o, none⟩) n cap] H fun e H' => ∃ v, e = .returned v ∧ SlI H' v ys ∧ H.le H' := by
  refine FnX_start Tryd.func25 rfl Tryd.ntmps25 (by simp) ?_
  (refine wpX_stmt ?_; intro K hK; simp -implicitDefEqProofs (disch := first | omega | (simp only [qd] <;> omega)) only [xq, ↓xp, qc, Nat.reduceAdd, List.range, List.range.loop, fine, Nat.reduceEqDiff, ↓reduceIte, yielded, reduceCtorEq, Nat.reduceLT, Nat.reduceMul, Nat.reduceSub, one, Nat.reduceLeDiff, runX_cons, y25_14]; refine hK _ _ ?_; clear hK K)
  (refine wpX_stmt ?_; intro K hK; simp -implicitDefEqProofs (disch := first | omega | (simp only [qd] <;> omega)) only [xq, ↓xp, qc, Nat.reduceAdd, List.range, List.range.loop, fine, Nat.reduceEqDiff, ↓reduceIte, yielded, reduceCtorEq, Nat.reduceLT, Nat.reduceMul, Nat.reduceSub, one, Nat.reduceLeDiff, runX_cons, y25_14])
  intro nb hnb
  have hle : H.le (H.set nb (.cells #[] 3 (0, 0))) := Hp.le_set hnb
  refine append_ints (H₀ := H) (n := 0) (xs := []) (ys := ys) (.inr ⟨nb, #[], 0, hnb, rfl, rfl, rfl, rfl, Nat.le_refl _, fun i u hi => by simp [ints] at hi⟩) (Hp.le_refl _) hn (fun h => ?_) (fun j y hj => ?_) (by omega) _ _ _ _ ?_
  · obtain ⟨x, hx⟩ := hg; rw [hx] at h; cases h
  · obtain ⟨x, hx⟩ := hg
    rw [cell_set_ne (fun e => by rw [e, hnb] at hx; cases hx)]
    exact hys j y hj
  · intro v H1 H2 hr hl
    simp -implicitDefEqProofs (disch := first | omega | (simp only [qd] <;> omega)) only [xq, ↓xp, qc, Nat.reduceAdd, List.range, List.range.loop, fine, Nat.reduceEqDiff, ↓reduceIte, yielded, reduceCtorEq, Nat.reduceLT, Nat.reduceMul, Nat.reduceSub, one, Nat.reduceLeDiff, runX_cons, y25_14]
    refine hK _ _ ?_; clear hK K
    (refine wpX_ret ?_; (try simp only [nq, ↓reduceIte, Nat.reduceEqDiff]); rw [bodyX_ret, results_one Tryd.results25 (by decide)]; simp only [upd_get, Nat.reduceEqDiff, ↓reduceIte])
    exact ⟨v, rfl, (SlI.row hr).le hl, fun x v hx => hl _ _ (hr.le _ _ hx)⟩

theorem at_spec (m : Bool) (H : Hp) (v : Value) (xs : List Int) (n : Int) (hv : SlI H v xs) (hb : xs.length ≤ 1000000) :
    FnX Tryd.prog m 49 #[v, .int .i64 n] H fun e H' => H' = H ∧ ∃ r : Int, e = .returned (.int .i64 r) ∧ (xs[0]? = some n → r = 0) := by
  obtain ⟨a, cap, rfl, hc, hv⟩ := hv
  refine FnX_start Tryd.func49 rfl Tryd.ntmps49 (by simp) ?_
  (refine wpX_stmt ?_; intro K hK; simp -implicitDefEqProofs (disch := first | omega | (simp only [qd] <;> omega)) only [xq, ↓xp, qc, Nat.reduceAdd, List.range, List.range.loop, fine, Nat.reduceEqDiff, ↓reduceIte, yielded, reduceCtorEq, Nat.reduceLT, Nat.reduceMul, Nat.reduceSub, one, Nat.reduceLeDiff, runX_cons, y49_14]; refine hK _ _ ?_; clear hK K)
  refine wpX_seq ?_
  (refine wpX_stmt ?_; intro K hK; simp -implicitDefEqProofs (disch := first | omega | (simp only [qd] <;> omega)) only [xq, ↓xp, qc, Nat.reduceAdd, List.range, List.range.loop, fine, Nat.reduceEqDiff, ↓reduceIte, yielded, reduceCtorEq, Nat.reduceLT, Nat.reduceMul, Nat.reduceSub, one, Nat.reduceLeDiff, runX_cons, y49_14]; refine hK _ _ ?_; clear hK K)
  refine wpX_block (wpX_loop (fun w a' H' => ∃ e j, w = xs.length - j ∧ j ≤ xs.length ∧ a' = act 19 e [] ∧ e 0 = .slice a xs.length cap ∧ e 1 = .int .i64 n ∧ e 5 = .int .i64 (j : Nat) ∧ H' = H ∧ (0 < j → xs[0]? ≠ some n)) (n := xs.length) ?_ ?_)
  · exact ⟨_, 0, by omega, by omega, rfl, rfl, rfl, rfl, rfl, fun h => by omega⟩
  · rintro w a' H' ⟨e, j, rfl, hj, rfl, e0, e1, e5, rfl, h0⟩
    refine wpX_seq ?_
    (refine wpX_stmt ?_; intro K hK; simp -implicitDefEqProofs (disch := first | omega | (simp only [qd] <;> omega)) only [xq, ↓xp, qc, Nat.reduceAdd, List.range, List.range.loop, fine, Nat.reduceEqDiff, ↓reduceIte, yielded, reduceCtorEq, Nat.reduceLT, Nat.reduceMul, Nat.reduceSub, one, Nat.reduceLeDiff, runX_cons, y49_14, e0, e1, e5]; refine hK _ _ ?_; clear hK K)
    refine wpX_cond (by simp -implicitDefEqProofs (disch := first | omega | (simp only [qd] <;> omega)) only [act_eval, upd_get, Nat.reduceEqDiff, ↓reduceIte]; rfl) ?_
    by_cases hlt : j < xs.length
    · simp only [Int.ofNat_lt, hlt, decide_true, if_true]
      refine wpX_skip (wpX_seq (wpX_block ?_))
      obtain ⟨b, o, p, c, fr, rfl, hb, hx⟩ := hv j xs[j] (List.getElem?_eq_getElem hlt)
      have hx' : c[o + (j : Int).toNat * 1]? = some (.int .i64 xs[j]) := by simpa using hx
      (refine wpX_stmt ?_; intro K hK; simp -implicitDefEqProofs (disch := first | omega | (simp only [qd] <;> omega)) only [xq, ↓xp, qc, Nat.reduceAdd, List.range, List.range.loop, fine, Nat.reduceEqDiff, ↓reduceIte, yielded, reduceCtorEq, Nat.reduceLT, Nat.reduceMul, Nat.reduceSub, one, Nat.reduceLeDiff, runX_cons, y49_14, e0, e1, e5, cell_of hb, hx', exists_eq_left']; refine hK _ _ ?_; clear hK K)
      refine wpX_cond (by simp -implicitDefEqProofs (disch := first | omega | (simp only [qd] <;> omega)) only [act_eval, upd_get, Nat.reduceEqDiff, ↓reduceIte]; rfl) ?_
      by_cases heq : xs[j] = n
      · simp only [heq, beq_self_eq_true, decide_true, if_true]
        (refine wpX_stmt ?_; intro K hK; simp -implicitDefEqProofs (disch := first | omega | (simp only [qd] <;> omega)) only [xq, ↓xp, qc, Nat.reduceAdd, List.range, List.range.loop, fine, Nat.reduceEqDiff, ↓reduceIte, yielded, reduceCtorEq, Nat.reduceLT, Nat.reduceMul, Nat.reduceSub, one, Nat.reduceLeDiff, runX_cons, y49_14, e0, e1, e5]; refine hK _ _ ?_; clear hK K)
        (refine wpX_ret ?_; simp only [thn, blk]; rw [bodyX_ret, results_one Tryd.results49 (by decide)]; simp only [upd_get, Nat.reduceEqDiff, ↓reduceIte])
        refine ⟨by trivial, _, rfl, fun h => ?_⟩
        by_cases hz : j = 0
        · rw [hz]; rfl
        · exact absurd h (h0 (by omega))
      · rw [beq_false_of_ne heq]
        simp only [Bool.false_eq_true, if_false]
        refine wpX_skip ?_
        simp -implicitDefEqProofs (disch := first | omega | (simp only [qd] <;> omega)) only [thn, blk, ↓reduceIte, Nat.reduceEqDiff]
        (refine wpX_last ?_; intro K hK; simp -implicitDefEqProofs (disch := first | omega | (simp only [qd] <;> omega)) only [xq, ↓xp, qc, Nat.reduceAdd, List.range, List.range.loop, fine, Nat.reduceEqDiff, ↓reduceIte, yielded, reduceCtorEq, Nat.reduceLT, Nat.reduceMul, Nat.reduceSub, one, Nat.reduceLeDiff, runX_cons, y49_14, e0, e1, e5]; refine hK _ _ ?_; clear hK K)
        simp -implicitDefEqProofs (disch := first | omega | (simp only [qd] <;> omega)) only [thn, blk, ↓reduceIte, Nat.reduceEqDiff]
        refine ⟨_, ?_, _, j + 1, rfl, hlt, rfl, e0, e1, rfl, by trivial, fun _ h => ?_⟩
        · omega
        · by_cases hz : j = 0
          · subst hz
            rw [List.getElem?_eq_getElem hlt] at h
            exact heq (Option.some.inj h)
          · exact h0 (by omega) h
    · simp only [Int.ofNat_lt, hlt, decide_false, Bool.false_eq_true, if_false]
      (refine wpX_exit ?_; simp only [thn, blk, ↓reduceIte, Nat.reduceEqDiff])
      (refine wpX_stmt ?_; intro K hK; simp -implicitDefEqProofs (disch := first | omega | (simp only [qd] <;> omega)) only [xq, ↓xp, qc, Nat.reduceAdd, List.range, List.range.loop, fine, Nat.reduceEqDiff, ↓reduceIte, yielded, reduceCtorEq, Nat.reduceLT, Nat.reduceMul, Nat.reduceSub, one, Nat.reduceLeDiff, runX_cons, y49_14, e0, e1, e5]; refine hK _ _ ?_; clear hK K)
      (refine wpX_ret ?_; (try simp only [nq, ↓reduceIte, Nat.reduceEqDiff]); rw [bodyX_ret, results_one Tryd.results49 (by decide)]; simp only [upd_get, Nat.reduceEqDiff, ↓reduceIte])
      refine ⟨by trivial, _, rfl, fun h => ?_⟩
      by_cases hz : xs = []
      · subst hz; simp at h
      · exact absurd h (h0 (by have := List.length_pos_iff.2 hz; omega))
end Go.Proofs.YtiempdpjcddgfaaDoor
end
section
/- A slice that a function grows while other memory is used. -/
set_option linter.unusedSimpArgs false
set_option maxRecDepth 100000
set_option maxHeartbeats 1000000
set_option linter.unusedVariables false
namespace Go.Proofs.YtiempdpjcddgfaaDoor
open Go Go.X

/-- Since H₀ a slice v of one's own has been made; its cells are cs. -/
def RowX (t : Option Nat) (H₀ H : Hp) (v : Value) (e : TypeId) (cs : List Value) : Prop :=
  Lex t H₀ H ∧ ((v = .slice none 0 0 ∧ cs = []) ∨
  ∃ (b : Nat) (c : Array Value) (cap : Nat), H₀ b = none ∧ H b = some (true, .cells c e (0, 0)) ∧ v = .slice (some ⟨b, 0, none⟩) cs.length cap ∧ c.size = cap ∧ cs.length ≤ cap ∧ ∀ (i : Nat) (u : Value), cs[i]? = some u → c[i]? = some u)
/-- What is of another kind stays. -/
def Other (e : TypeId) (H H' : Hp) : Prop := ∀ x p o, H x = some (p, o) → (p = false ∨ ∀ c fr, o ≠ .cells c e fr) → H' x = some (p, o)

theorem RowX.nil {t : Option Nat} {H : Hp} {e : TypeId} : RowX t H H (.slice none 0 0) e [] := ⟨Lex.refl, .inl ⟨rfl, rfl⟩⟩
theorem RowX.len {t : Option Nat} {H₀ H : Hp} {v : Value} {e : TypeId} {cs : List Value} (h : RowX t H₀ H v e cs) : ∃ a cap, v = .slice a cs.length cap := by
  rcases h.2 with ⟨rfl, rfl⟩ | ⟨b, c, cap, _, _, rfl, _⟩
  · exact ⟨_, _, rfl⟩
  · exact ⟨_, _, rfl⟩
/-- Steps that keep all but the tin keep the row. -/
theorem RowX.lex {t : Option Nat} {H₀ H H' : Hp} {v : Value} {e : TypeId} {cs : List Value} (h : RowX t H₀ H v e cs) (hl : Lex t H H') (ht : ∀ b, t = some b → ∀ p c fr, H b ≠ some (p, .cells c e fr)) : RowX t H₀ H' v e cs := by
  refine ⟨h.1.trans hl, h.2.imp id ?_⟩
  rintro ⟨b, c, cap, h0, h1, h2, h3, h4, h5⟩
  exact ⟨b, c, cap, h0, hl.hold h1 (fun e => ht b e _ _ _ h1), h2, h3, h4, h5⟩
theorem RowX.le {t : Option Nat} {H₀ H H' : Hp} {v : Value} {e : TypeId} {cs : List Value} (h : RowX t H₀ H v e cs) (hl : H.le H') : RowX t H₀ H' v e cs := by
  refine ⟨h.1.le hl, h.2.imp id ?_⟩
  rintro ⟨b, c, cap, h0, h1, h2, h3, h4, h5⟩
  exact ⟨b, c, cap, h0, hl _ _ h1, h2, h3, h4, h5⟩
theorem RowX.new {t : Option Nat} {H₀ H : Hp} {v : Value} {e : TypeId} {cs : List Value} (h : RowX t H₀ H v e cs) {g : Nat} (hg : H g = none) {o : Obj} : RowX t H₀ (H.set g o) v e cs := h.le (Hp.le_set hg)
theorem RowX.base {t : Option Nat} {H₀ H₁ H : Hp} {v : Value} {e : TypeId} {cs : List Value} (h : RowX t H₁ H v e cs) (hl : Lex t H₀ H₁) : RowX t H₀ H v e cs := by
  refine ⟨hl.trans h.1, h.2.imp id ?_⟩
  rintro ⟨b, c, cap, h0, h1, h2, h3, h4, h5⟩
  exact ⟨b, c, cap, hl.gone h0, h1, h2, h3, h4, h5⟩

/-- One value more. -/
theorem append_row {P : Program} {tt e : TypeId} {z : Value} {inf : TypeInfo} (hu : P.underlying tt = some (.slice e)) (hs : ∀ w, (sizeOf e).run P w = .ok 1 w) (hz : ∀ w, (zeroValue e).run P w = .ok z w) (hzc : z.cells.size = 1)
    (hi : ∀ w, (typeInfo e).run P w = .ok inf w) (hby : inf.bytes ≤ 1024) (hby0 : 0 < inf.bytes)
    {t : Option Nat} {H₀ H : Hp} {v : Value} {cs : List Value} (h : RowX t H₀ H v e cs) {g : Nat} {w : Value} (hg : H g = none) (hw : one w = true) (hn : cs.length ≤ 1000000) (ty : TypeId) (cb : Array Bool) (K : Next → Hp → Prop) (E : Value → Hp → Prop)
    (h' : ∀ v' H', RowX t H₀ H' v' e (cs ++ [w]) → Other e H H' → K (.value v') H') :
    wpS P (builtin .append #[tt, tt] ty cb #[v, .slice (some ⟨g, 0, none⟩) 1 1]) (H.set g (.cells #[w] e (0, 0))) K E := by
  obtain ⟨hlex, hrow⟩ := h
  have hws : ∀ (j : Nat) (u : Value), [w][j]? = some u → (H.set g (.cells #[w] e (0, 0))).cell ⟨g, 0 + j, none⟩ = some u := by
    intro j u hj
    rw [Nat.zero_add, cell_of (b := g) (p := true) (c := #[w]) (e := e) (f := (0, 0)) (by rw [get_set, if_pos rfl])]
    simpa using hj
  have h1w : ∀ u ∈ [w], one u = true := by simp [hw]
  rcases hrow with ⟨rfl, rfl⟩ | ⟨b, c, cap, hb0, hb, rfl, hcs, hcap, hget⟩
  · refine append_law (P := P) hu hs hz hzc hi hby hby0 (NewRow.nil H e 1) (Hp.le_set hg) (by simp) id hws h1w (by omega) ty cb K E (fun v' H1 H2 hr hl => ?_)
    have hle : H.le H2 := fun x u hx => hl _ _ (hr.le _ _ hx)
    refine h' v' H2 ⟨hlex.le hle, ?_⟩ (fun x p o hx _ => hle _ _ hx)
    rcases hr with ⟨_, hn0, _⟩ | ⟨b', c', cap', hb', rfl, rfl, hs', hl', hn', hg'⟩
    · simp at hn0
    · refine .inr ⟨b', c', cap', hlex.gone hb', hl _ _ (by rw [get_set, if_pos rfl]), by simp, by omega, by simpa using hn', fun i u hi => hg' i u hi⟩
  · have hgb : g ≠ b := fun e => by rw [e, hb] at hg; cases hg
    have hD : (fun x => if x = b then none else H x : Hp) b = none := by simp
    have hH : H = Hp.set (fun x => if x = b then none else H x) b (.cells c e (0, 0)) := by
      funext x
      unfold Hp.set
      by_cases e : x = b
      · subst e; simp [hb]
      · simp [e]
    refine append_law (P := P) hu hs hz hzc hi hby hby0 (H₀ := fun x => if x = b then none else H x) (H := H) (n := cs.length) (cs := cs) (.inr ⟨b, c, cap, hD, hH, rfl, by omega, by omega, hcap, hget⟩) (Hp.le_set hg) (by simp) (fun _ => hg) hws h1w (by omega) ty cb K E (fun v' H1 H2 hr hl => ?_)
    have hkeep : ∀ x u, x ≠ b → H x = some u → H2 x = some u := fun x u hn hx => hl _ _ (hr.le _ _ (by simp only [hn, if_false]; exact hx))
    rcases hr with ⟨_, hn0, _⟩ | ⟨b', c', cap', hb', rfl, rfl, hs', hl', hn', hg'⟩
    · simp at hn0
    · have hb2 : H2 b' = some (true, .cells c' e (0, 0)) := hl _ _ (by rw [get_set, if_pos rfl])
      have hb'0 : H₀ b' = none := by
        by_cases e : b' = b
        · rw [e]; exact hb0
        · simp only [e, if_false] at hb'; exact hlex.gone hb'
      refine h' _ H2 ⟨fun x u hx => ?_, .inr ⟨b', c', cap', hb'0, hb2, by simp, by omega, by simpa using hn', hg'⟩⟩ (fun x p o hx ho => hkeep x _ (fun e => ?_) hx)
      · obtain ⟨u', hu', e'⟩ := hlex x u hx
        exact ⟨u', hkeep x u' (fun e => by rw [e, hb0] at hx; cases hx) hu', e'⟩
      · rw [e, hb] at hx
        simp only [Option.some.injEq, Prod.mk.injEq] at hx
        rcases ho with ho | ho
        · rw [ho] at hx; cases hx.1
        · exact ho c (0, 0) hx.2.symm

theorem Other.tin {H H' : Hp} {e : TypeId} {b k : Nat} (h : Other e H H') (he : e ≠ 50) (hT : TinI H b k) : TinI H' b k := by
  obtain ⟨sa, sl, sc, g, st, h1, h2, h3, h4⟩ := hT
  refine ⟨sa, sl, sc, g, st, h b _ _ h1 (.inr fun c fr e' => ?_), h2, h3, fun i hi => ?_⟩
  · simp only [Obj.cells.injEq] at e'
    exact he e'.2.1.symm
  · obtain ⟨sb, so, c, e, fr, x, ha, hs, hx⟩ := h4 i hi
    exact ⟨sb, so, c, e, fr, x, ha, h sb _ _ hs (.inl rfl), hx⟩
theorem Other.cells {H H' : Hp} {e e' : TypeId} (h : Other e H H') {x : Nat} {p : Bool} {c : Array Value} {fr : Nat × Nat} (hx : H x = some (p, .cells c e' fr)) (he : e' ≠ e) : H' x = some (p, .cells c e' fr) :=
  h x _ _ hx (.inr fun c' fr' e'' => by simp only [Obj.cells.injEq] at e''; exact he e''.2.1)

theorem RowX.ints {t : Option Nat} {H₀ H : Hp} {v : Value} {xs : List Int} (h : RowX t H₀ H v 3 (ints xs)) : SlI H v xs := by
  rcases h.2 with ⟨rfl, hx⟩ | ⟨b, c, cap, _, hb, rfl, hc, hle, hget⟩
  · have : xs = [] := by simpa [Go.Proofs.YtiempdpjcddgfaaDoor.ints] using hx
    subst this
    exact SlI.nil _ _ _
  · rw [ints_len] at hle ⊢
    exact ⟨_, cap, rfl, hle, fun i x hi => ⟨b, 0, true, c, (0, 0), rfl, hb, by rw [Nat.zero_add]; exact hget i _ (ints_get hi)⟩⟩

/-- A slice of rows of numbers. -/
def SlR (H : Hp) (v : Value) (xss : List (List Int)) : Prop :=
  ∃ (a : Option Addr) (cap : Nat), v = .slice a xss.length cap ∧ xss.length ≤ cap ∧ ∀ (i : Nat) (xs : List Int), xss[i]? = some xs → ∃ (b o : Nat) (p : Bool) (c : Array Value) (fr : Nat × Nat) (w : Value), a = some ⟨b, o, none⟩ ∧ H b = some (p, .cells c 22 fr) ∧ c[o + i]? = some w ∧ SlI H w xs
/-- Rows as cells. -/
def Rows (H : Hp) (vs : List Value) (xss : List (List Int)) : Prop := vs.length = xss.length ∧ ∀ (i : Nat) (xs : List Int), xss[i]? = some xs → ∃ w, vs[i]? = some w ∧ SlI H w xs
theorem Rows.mono {H H' : Hp} {vs : List Value} {xss : List (List Int)} (h : Rows H vs xss) (hl : ∀ v xs, SlI H v xs → SlI H' v xs) : Rows H' vs xss :=
  ⟨h.1, fun i xs hi => by obtain ⟨w, h1, h2⟩ := h.2 i xs hi; exact ⟨w, h1, hl _ _ h2⟩⟩
theorem Rows.nil {H : Hp} : Rows H [] [] := ⟨rfl, fun i xs hi => by simp at hi⟩
theorem Rows.snoc {H : Hp} {vs : List Value} {xss : List (List Int)} (h : Rows H vs xss) {w : Value} {xs : List Int} (hw : SlI H w xs) : Rows H (vs ++ [w]) (xss ++ [xs]) := by
  refine ⟨by simp [h.1], fun i ys hi => ?_⟩
  by_cases hlt : i < xss.length
  · rw [List.getElem?_append_left hlt] at hi
    obtain ⟨w', h1, h2⟩ := h.2 i ys hi
    exact ⟨w', by rw [List.getElem?_append_left (by rw [h.1]; exact hlt)]; exact h1, h2⟩
  · rw [List.getElem?_append_right (by omega)] at hi
    have : i - xss.length = 0 := by
      have := (List.getElem?_eq_some_iff.1 hi).1
      simp at this; omega
    rw [this] at hi
    simp at hi
    subst hi
    exact ⟨w, by rw [List.getElem?_append_right (by rw [h.1]; omega), h.1, this]; rfl, hw⟩
theorem RowX.rows {t : Option Nat} {H₀ H : Hp} {v : Value} {vs : List Value} {xss : List (List Int)} (h : RowX t H₀ H v 22 vs) (hr : Rows H vs xss) : SlR H v xss := by
  rcases h.2 with ⟨rfl, rfl⟩ | ⟨b, c, cap, _, hb, rfl, hc, hle, hget⟩
  · have : xss = [] := by have := hr.1; simp at this; exact List.eq_nil_of_length_eq_zero this.symm
    subst this
    exact ⟨_, _, rfl, Nat.zero_le _, fun i xs hi => by simp at hi⟩
  · refine ⟨_, cap, by rw [hr.1], by rw [← hr.1]; exact hle, fun i xs hi => ?_⟩
    obtain ⟨w, h1, h2⟩ := hr.2 i xs hi
    exact ⟨b, 0, true, c, (0, 0), w, rfl, hb, by rw [Nat.zero_add]; exact hget i w h1, h2⟩
theorem SlI.one {H : Hp} {v : Value} {xs : List Int} (h : SlI H v xs) : one v = true := by
  obtain ⟨a, cap, rfl, _⟩ := h
  rfl
theorem SlI.move {H H' : Hp} {v : Value} {xs : List Int} (h : SlI H v xs) (hl : ∀ x p c fr, H x = some (p, .cells c 3 fr) → H' x = some (p, .cells c 3 fr)) : SlI H' v xs := by
  obtain ⟨a, cap, hv, hc, h⟩ := h
  refine ⟨a, cap, hv, hc, fun i x hi => ?_⟩
  obtain ⟨b, o, p, c, fr, ha, hb, hx⟩ := h i x hi
  exact ⟨b, o, p, c, fr, ha, hl _ _ _ _ hb, hx⟩
theorem SlR.move {H H' : Hp} {v : Value} {xss : List (List Int)} (h : SlR H v xss) (hl : ∀ x p c fr e, (e = 3 ∨ e = 22) → H x = some (p, .cells c e fr) → H' x = some (p, .cells c e fr)) : SlR H' v xss := by
  obtain ⟨a, cap, hv, hc, h⟩ := h
  refine ⟨a, cap, hv, hc, fun i x hi => ?_⟩
  obtain ⟨b, o, p, c, fr, w, ha, hb, hx, hs⟩ := h i x hi
  exact ⟨b, o, p, c, fr, w, ha, hl _ _ _ _ _ (.inr rfl) hb, hx, hs.move fun _ _ _ _ h => hl _ _ _ _ _ (.inl rfl) h⟩
theorem SlR.le {H H' : Hp} {v : Value} {xss : List (List Int)} (h : SlR H v xss) (hl : H.le H') : SlR H' v xss := h.move fun _ _ _ _ _ _ hx => hl _ _ hx
theorem SlR.lex {H H' : Hp} {v : Value} {xss : List (List Int)} (h : SlR H v xss) {b k : Nat} (hl : Lex (some b) H H') (hT : TinI H b k) : SlR H' v xss := h.move fun x p c fr e he hx => hl.keeps hx fun e' => by
  obtain ⟨_, _, _, _, _, hb2, _⟩ := hT
  rw [e', hb2] at hx
  simp only [Option.some.injEq, Prod.mk.injEq, Obj.cells.injEq] at hx
  rcases he with he | he <;> rw [he] at hx <;> exact absurd hx.2.2.1 (by decide)
end Go.Proofs.YtiempdpjcddgfaaDoor
end
