/- The end of a law's proof: reading the arguments, and the row's own ending. -/
import Derived.Test.YtemkogoclljhpaaLG
import Derived.ProofKit
import Derived.OpenShut
namespace Go.Proofs.Ytemkogoclljhpaa.L
open Go Go.ChangeShapes Go.WideShapes Go.ChangeAt Go.RowKit
set_option linter.unusedVariables false
set_option linter.unusedSimpArgs false

/-! ### 1. What was there reads as before -/
theorem Keeps.below {w w' : World} (k : Keeps (fun _ => False) w w') : Below w.heap.size w w' := ⟨k.os, k.tape, k.output, k.size, fun i hi => k.block i hi id⟩
section
variable {H : Type} {enc : TypeId × Value → H} {P : Program}
theorem trodAll_stays (hl : laidOutB P = true) {W W' : World} {sp : Nat → Bool} : ∀ {ts : List TypeId} {vs : List Value} {ds : List (DataW H)} {ps : List MemPlace},
    (ts.all fun t => P.readableRec t && decide (t < P.types.size)) = true → DataW.TrodAll enc P W 0 (fun _ => true) true ts vs ds ps → (∀ p ∈ ps, W.sameAt W' p) → (∀ p ∈ ps, sp p.block = true) → DataW.TrodAll enc P W' 0 sp true ts vs ds ps
  | [], [], [], _, _, h, _, _ => h
  | t :: ts, _ :: _, _ :: _, _, ht, ⟨p, q, h1, h2, e⟩, hs, hp => by
    simp only [List.all_cons, Bool.and_eq_true, decide_eq_true_eq] at ht
    exact ⟨p, q, WideElems.Trod_stays hl ht.1.1 ht.1.2 h1 (fun x hx => hs x (by rw [e]; exact List.mem_append_left _ hx)) (fun x hx => hp x (by rw [e]; exact List.mem_append_left _ hx)),
      trodAll_stays hl ht.2 h2 (fun x hx => hs x (by rw [e]; exact List.mem_append_right _ hx)) (fun x hx => hp x (by rw [e]; exact List.mem_append_right _ hx)), e⟩

theorem post_law {f : Func} {s : ChangeSpec} {apart fresh handsOn again : Bool} {W W' : World} {args : Array Value} {ds gs : List (DataW H)} {before : List MemPlace} {tb : TypeId} (hl : laidOutB P = true)
    (hts : (f.params.toList.all fun t => P.readableRec t && decide (t < P.types.size)) = true)
    (hW : DataW.Whole enc P f.params.toList s.vars apart W args.toList ds gs before) (hA : DataW.TrodAll enc P W 0 (fun _ => true) true f.params.toList args.toList ds before)
    (hsv : s.vars = []) (hgs : gs = []) (hs : s.fn H (ds ++ gs) = { results := [.lit (.bool true)], args := ds, vars := [] }) (hr : f.resultTypes = #[tb]) (hb : P.underlying tb = some .bool)
    (k : Keeps (fun _ => False) W W') : s.post enc P f apart fresh handsOn again W args (.bool true) W' := by
  have hlt : ∀ p ∈ before, p.block < W.heap.size := fun p hp => hW.lt p hp
  have hb' := k.below
  have hold : ∀ p ∈ before, (fun b => decide (b < W.heap.size)) p.block = true := fun p hp => by simpa using hlt p hp
  have hargs : ∀ sp : Nat → Bool, (∀ p ∈ before, sp p.block = true) → DataW.TrodAll enc P W' 0 sp true f.params.toList args.toList ds before := fun sp hsp => trodAll_stays hl hts hA (fun p hp => hb'.same (hlt p hp)) hsp
  have hres : ∀ (b : Nat) (sp : Nat → Bool) (hd : Bool), DataW.TrodAll enc P W' b sp hd f.resultTypes.toList ((Value.bool true).resultList f.resultTypes.size) [.lit (.bool true)] [] := by
    intro b sp hd
    rw [hr]
    exact trodAll_mk1 (shut_bool hb true)
  refine ⟨ds, gs, before, [], before, [], hW, ?_, ?_, ?_, World.keptBut_mono (fun p hp => ⟨hp, .inr (.inl hp)⟩) (hb'.frame (· ∈ before)), fun _ => ?_⟩
  · rw [hs]; exact hres _ _ _
  · rw [hs]; exact hargs _ hold
  · rw [hs, hsv]; rfl
  · obtain ⟨_, _, _, _, _, hz, hn⟩ := hW
    have e1 : (Value.bool true).resultList f.resultTypes.size = [.bool true] := by rw [hr]; rfl
    refine ⟨ok_one hr rfl (okWide_bool_mk hb true), _, [], ([] ++ before) ++ [], ⟨[] ++ before, [], trodAll_append (hargs _ (fun _ _ => rfl)) (hres _ _ _), ?_, rfl, ?_, ?_⟩, ?_⟩
    · rw [hsv]; rfl
    · intro b off hp
      have hp' : MemPlace.cell b off ∈ before := by simpa using hp
      rw [hb'.frozen (p := ⟨b, off, none⟩) (hlt _ hp')]
      exact hz b off hp'
    · intro ha
      simpa using hn ha
    · intro p hp _
      simpa using hp
end

/-! ### 2. Flat types: numbers, bools, strings, structs and arrays of these -/
inductive Flat where
  | num (k : IntKind) | bit | str
def Flat.fits : Flat → Value → Prop
  | .num k, v => ∃ n, v = .int k n ∧ (Lit.int k n).wf = true
  | .bit, v => ∃ b, v = .bool b
  | .str, v => ∃ s : ByteArray, v = .string s ∧ s.size ≤ maxLen
inductive FitsL : List Flat → List Value → Prop where
  | nil : FitsL [] []
  | cons {k : Flat} {v : Value} {ks : List Flat} {vs : List Value} (h : k.fits v) (r : FitsL ks vs) : FitsL (k :: ks) (v :: vs)
theorem FitsL.append {ks ls : List Flat} {vs us : List Value} (h : FitsL ks vs) (k : FitsL ls us) : FitsL (ks ++ ls) (vs ++ us) := by
  induction h with
  | nil => exact k
  | cons h r ih => exact .cons h ih
def flatFs (r : TypeId → Option (List Flat)) (P : Program) : List Field → Nat → Option (List Flat)
  | [], _ => some []
  | f :: fs, off => if f.offset = off then (r f.type).bind fun ks => if ks.length = P.cellsOf f.type then (flatFs r P fs (off + ks.length)).map (ks ++ ·) else none else none
def reps : Nat → List Flat → List Flat
  | 0, _ => []
  | n + 1, ks => ks ++ reps n ks
def flatOf (P : Program) : Nat → TypeId → Option (List Flat)
  | 0, _ => none
  | m + 1, t => match P.underlying t with
    | some (.int k) => some [.num k]
    | some .bool => some [.bit]
    | some .string => some [.str]
    | some (.struct fs) => (flatFs (flatOf P m) P fs.toList 0).bind fun ks => if ks.length = P.cellsOf t then some ks else none
    | some (.array n e) => (flatOf P m e).bind fun ks => if ks.length = P.cellsOf e ∧ n * ks.length = P.cellsOf t then some (reps n ks) else none
    | _ => none
section
variable {H : Type} {enc : TypeId × Value → H} {P : Program} {w : World} {base : Nat} {sp : Nat → Bool} {held : Bool}
theorem fits_fields {r : TypeId → Option (List Flat)} (hr : ∀ t ks, r t = some ks → ∀ fuel cs x, DataW.trod enc P w base sp held fuel t cs = some x → FitsL ks cs) {cs : List Value} {n : Nat} :
    ∀ (fs : List Field) (off : Nat) (ks : List Flat), flatFs r P fs off = some ks → (∀ f ∈ fs, ∃ x, DataW.trod enc P w base sp held n f.type ((cs.drop f.offset).take (P.cellsOf f.type)) = some x) → cs.length = off + ks.length → FitsL ks (cs.drop off)
  | [], off, ks, h, _, hl => by
    simp only [flatFs, Option.some.injEq] at h
    subst h
    rw [List.drop_eq_nil_of_le (by simp at hl; omega)]
    exact .nil
  | f :: fs, off, ks, h, hx, hl => by
    simp only [flatFs] at h
    split at h
    case isFalse => cases h
    case isTrue ho =>
      simp only [Option.bind_eq_some_iff] at h
      obtain ⟨k1, h1, h2⟩ := h
      split at h2
      case isFalse => cases h2
      case isTrue hk =>
        simp only [Option.map_eq_some_iff] at h2
        obtain ⟨k2, h3, rfl⟩ := h2
        obtain ⟨x, hx1⟩ := hx f (by simp)
        have e1 := hr _ _ h1 _ _ _ hx1
        rw [ho, ← hk] at e1
        have e2 := fits_fields hr fs (off + k1.length) k2 h3 (fun g hg => hx g (by simp [hg])) (by rw [hl, List.length_append]; omega)
        have := e1.append e2
        rwa [← List.drop_drop, List.take_append_drop] at this
theorem fits_reps {ks : List Flat} {c : Nat} (hc : ks.length = c) : ∀ (n : Nat) (cs : List Value), cs.length = n * c → (∀ i, i < n → FitsL ks ((cs.drop (i * c)).take c)) → FitsL (reps n ks) cs
  | 0, cs, hl, _ => by
    have : cs = [] := List.eq_nil_of_length_eq_zero (by simpa using hl)
    subst this
    exact .nil
  | n + 1, cs, hl, h => by
    have h0 := h 0 (by omega)
    simp only [Nat.zero_mul, List.drop_zero] at h0
    have := h0.append (fits_reps hc n (cs.drop c) (by rw [List.length_drop, hl, Nat.add_mul]; omega) (fun i hi => by
      have := h (i + 1) (by omega)
      rwa [List.drop_drop, show c + i * c = (i + 1) * c by rw [Nat.add_mul]; omega]))
    rwa [List.take_append_drop] at this
theorem trod_flat : ∀ (m : Nat) (t : TypeId) (ks : List Flat), flatOf P m t = some ks → ∀ fuel cs x, DataW.trod enc P w base sp held fuel t cs = some x → FitsL ks cs
  | 0, t, ks, h, _, _, _, _ => by simp [flatOf] at h
  | m + 1, t, ks, h, fuel, cs, x, hx => by
    unfold flatOf at h
    split at h
    · rename_i k ht
      simp only [Option.some.injEq] at h; subst h
      obtain ⟨n, rfl, _, hw⟩ := DataW.trod_int ht hx
      exact .cons ⟨n, rfl, hw⟩ .nil
    · rename_i ht
      simp only [Option.some.injEq] at h; subst h
      obtain ⟨b, rfl, _⟩ := DataW.trod_bool ht hx
      exact .cons ⟨b, rfl⟩ .nil
    · rename_i ht
      simp only [Option.some.injEq] at h; subst h
      obtain ⟨s, rfl, _, hs⟩ := DataW.trod_string ht hx
      exact .cons ⟨s, rfl, hs⟩ .nil
    · rename_i fs ht
      simp only [Option.bind_eq_some_iff] at h
      obtain ⟨k1, h1, h2⟩ := h
      split at h2
      case isFalse => cases h2
      case isTrue hk =>
        simp only [Option.some.injEq] at h2; subst h2
        obtain ⟨xs, n, _, _, hl, hxs, hf⟩ := DataW.trod_struct ht hx
        have := fits_fields (cs := cs) (n := n) (trod_flat m) fs.toList 0 k1 h1 (fun f hf' => by
          obtain ⟨i, hi⟩ := List.mem_iff_getElem?.1 hf'
          have hi' : fs[i]? = some f := by simpa using hi
          have := hf i f hi'
          have hlt : i < xs.length := by
            rw [hxs]
            rcases Nat.lt_or_ge i fs.size with h | h
            · exact h
            · rw [Array.getElem?_eq_none h] at hi'; cases hi'
          exact ⟨xs[i], by rw [this, List.getElem?_eq_getElem hlt]⟩) (by rw [hl, hk]; omega)
        simpa using this
    · rename_i n e ht
      simp only [Option.bind_eq_some_iff] at h
      obtain ⟨k1, h1, h2⟩ := h
      split at h2
      case isFalse => cases h2
      case isTrue hk =>
        simp only [Option.some.injEq] at h2; subst h2
        obtain ⟨xs, m', _, _, hl, hxs, hf⟩ := DataW.trod_array ht hx
        refine fits_reps hk.1 n cs (by rw [hl, ← hk.2, hk.1]) (fun i hi => ?_)
        have := hf i hi
        rw [List.getElem?_eq_getElem (by omega)] at this
        exact trod_flat m _ _ h1 _ _ _ this
    · cases h
end

/-! ### 3. The arguments -/
abbrev NoS : Foot := fun _ => False
theorem arg_is {v : Value} {w : World} : Box NoS (is v) v w := fun _ _ => rfl
section
variable {H : Type} {enc : TypeId × Value → H} {P : Program} {w : World} {p : List MemPlace} {d : DataW H} {v : Value}
theorem arg_slice {τ : Type} (K : PRep τ) (dom : τ → Prop) {t e : TypeId} {m : Nat} {ks : List Flat} (ht : P.underlying t = some (.slice e)) (he : flatOf P m e = some ks) (hn : P.cellsOf e = K.n)
    (hk : ∀ cs, FitsL ks cs → ∃ x, cs = K.enc x ∧ dom x) (hval : Value.okWide P w .any 0 t v) (h : DataW.Trod enc P w 0 (fun _ => true) true t v d p) : ∃ xs : List τ, Box NoS (Lst K.rep xs) v w ∧ (∀ x ∈ xs, dom x) ∧ xs.length ≤ maxLen := by
  obtain ⟨a0, len, cap, rfl⟩ := okWide_slice ht hval
  obtain ⟨fuel, hf⟩ := h
  have hcs : (Value.slice a0 len cap).cells.toList = [.slice a0 len cap] := rfl
  rw [hcs] at hf
  rcases DataW.trod_slice ht hf with ⟨h0, _⟩ | ⟨a, len', cap', elems, rest, n, _, hcs', _, _, hl, hm, hlen, hel, _, _⟩
  · simp only [List.cons.injEq, and_true, Value.slice.injEq] at h0
    obtain ⟨rfl, rfl, rfl⟩ := h0
    exact ⟨[], fun w' k => ⟨none, 0, rfl, Nat.le_refl _, fun h => absurd h (by simp)⟩, fun x hx => by simp at hx, Nat.zero_le _⟩
  · simp only [List.cons.injEq, and_true, Value.slice.injEq] at hcs'
    obtain ⟨rfl, rfl, rfl⟩ := hcs'
    obtain ⟨xs, hxl, hxs⟩ := list_of (fun i (x : τ) => dom x ∧ CellsAt w (a.add (i * K.n)) (K.enc x)) len (fun i hi => by
      have h1 := hel i hi
      rw [List.getElem?_eq_getElem (by omega)] at h1
      simp only [Option.bind_eq_some_iff] at h1
      obtain ⟨cs, hc, hx⟩ := h1
      obtain ⟨x, rfl, hd⟩ := hk _ (trod_flat m e ks he _ _ _ hx)
      refine ⟨x, hd, fun j u hj => ?_⟩
      unfold World.cells? at hc
      rw [if_pos (Nat.zero_le _)] at hc
      have hjl : j < K.n := by
        rcases Nat.lt_or_ge j (K.enc x).length with h | h
        · rwa [K.len] at h
        · rw [List.getElem?_eq_none h] at hj; cases hj
      have := mapM_some_get hc j j (by simp [hn, hjl])
      rw [hn] at this
      rw [this, hj])
    refine ⟨xs, fun w' k => ⟨some a, cap, by rw [hxl], by omega, fun _ => ⟨a, rfl, fun i x hx => ⟨_, All2.of_is (K.enc x), (hxs i x hx).2.keeps k id⟩⟩⟩, fun x hx => ?_, by omega⟩
    obtain ⟨i, hi⟩ := List.mem_iff_getElem?.1 hx
    exact (hxs i x hi).1
/-- a struct or an array, all of whose cells are flat -/
theorem arg_agg {t : TypeId} {m : Nat} {ks : List Flat} (he : flatOf P m t = some ks) (hu : (match P.underlying t with | some (.struct _) => true | some (.array _ _) => true | _ => false) = true)
    (hval : Value.okWide P w .any 0 t v) (h : DataW.Trod enc P w 0 (fun _ => true) true t v d p) : ∃ cs : Array Value, v = .agg cs ∧ FitsL ks cs.toList := by
  obtain ⟨fuel, hf⟩ := h
  have hx := trod_flat m t ks he _ _ _ hf
  have : ∃ cs : Array Value, v = .agg cs := by
    unfold Value.okWide at hval
    split at hu
    · rename_i fs hfs; simp only [hfs] at hval; obtain ⟨cs, h1, _⟩ := hval; exact ⟨cs, h1⟩
    · rename_i n e hfs; simp only [hfs] at hval; obtain ⟨cs, h1, _⟩ := hval; exact ⟨cs, h1⟩
    · cases hu
  obtain ⟨cs, rfl⟩ := this
  exact ⟨cs, rfl, hx⟩
end
/-- a slice of numbers -/
def numP (k : IntKind) : PRep Int := ⟨1, fun n => [.int k n], fun _ => rfl, fun _ => rfl, by decide, 0⟩
theorem numP_rep (k : IntKind) : (numP k).rep = intR k := rfl
theorem num_fits (k : IntKind) : ∀ cs, FitsL [.num k] cs → ∃ x, cs = (numP k).enc x ∧ (Lit.int k x).wf = true := by
  intro cs h
  cases h with
  | cons h r =>
    cases r
    obtain ⟨n, rfl, hw⟩ := h
    exact ⟨n, rfl, hw⟩
end Go.Proofs.Ytemkogoclljhpaa.L
