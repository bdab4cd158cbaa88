/- Reading an argument of a call: whatever the memory, the cells of a whole number, a bool, a slice, a struct are those of one plain value. No condition but the types' shapes. -/
import Derived.Deep.Slices
import Derived.Deep.Fields
import Derived.ChangeSame
import Derived.Test.YtgjhlkjfdlkndaaVFnBothWords
namespace Go.Proofs.Ytgjhlkjfdlkndaa.Rd
open Go.ChangeShapes Go.WideShapes Go.Deep Go.RowKit Go.Proofs.YtgjhlkjfdlkndaaW.PrintWords
set_option linter.unusedVariables false
set_option linter.unusedSimpArgs false

/-- What reads as type t is some value a of kind d, and a is as ok says. -/
def Rd {α : Type} (P : Program) (t : TypeId) (d : Kd α) (ok : α → Prop) : Prop :=
  ∀ (H : Type) (enc : TypeId × Value → H) (w : World) (base : Nat) (spare : Nat → Bool) (held : Bool) (fuel : Nat) (cs : List Value) (x : DataW H × List MemPlace),
    DataW.trod enc P w base spare held fuel t cs = some x → ∃ a, d.K w a cs ∧ ok a
/-- The same of values in a row, one cell each. -/
def RdF {α : Type} (P : Program) (ts : List TypeId) (d : Kd α) (ok : α → Prop) : Prop :=
  ∀ (H : Type) (enc : TypeId × Value → H) (w : World) (base : Nat) (spare : Nat → Bool) (held : Bool) (vs : List Value), vs.length = ts.length →
    (∀ (i : Nat) (t : TypeId) (v : Value), ts[i]? = some t → vs[i]? = some v → ∃ (fuel : Nat) (x : DataW H × List MemPlace), DataW.trod enc P w base spare held fuel t [v] = some x) → ∃ a, d.K w a vs ∧ ok a
variable {P : Program} {t e : TypeId}
theorem rd_int {k : IntKind} (ht : P.underlying t = some (.int k)) : Rd P t (Kd.int k) (fun a => (Lit.int k a).wf = true) := by
  intro H enc w base spare held fuel cs x h
  obtain ⟨n, rfl, _, hw⟩ := DataW.trod_int ht h
  exact ⟨n, rfl, hw⟩
theorem rd_bool (ht : P.underlying t = some .bool) : Rd P t Kd.bool (fun _ => True) := by
  intro H enc w base spare held fuel cs x h
  obtain ⟨b, rfl, _⟩ := DataW.trod_bool ht h
  exact ⟨b, rfl, trivial⟩
theorem rd_f64 (d : Kd Nat) (hd : ∀ w b, d.K w b [.float .f64 b]) (ht : P.underlying t = some (.float .f64)) : Rd P t d (fun a => (Lit.float .f64 a).wf = true) := by
  intro H enc w base spare held fuel cs x h
  cases fuel with
  | zero => simp [DataW.trod] at h
  | succ n =>
    unfold DataW.trod at h
    rw [ht] at h
    match cs, h with
    | [.float k b], h =>
      by_cases hk : k = .f64 ∧ (Lit.float .f64 b).wf = true
      · obtain ⟨rfl, hw⟩ := hk
        exact ⟨b, hd w b, hw⟩
      · simp [hk] at h
theorem rd_slice {α : Type} {d : Kd α} {ok : α → Prop} (ht : P.underlying t = some (.slice e)) (hs : P.cellsOf e = d.sz) (h : Rd P e d ok) : Rd P t (Kd.slice e d) (fun xs => xs.length ≤ maxLen ∧ ∀ y ∈ xs, ok y) := by
  intro H enc w base spare held fuel cs x hx
  rcases open_slice ht hx with ⟨rfl, _⟩ | ⟨a, len, cap, m, n, D, Pl, rfl, hb, hl, hm, hmm, hxx, hi⟩
  · exact ⟨[], ⟨none, 0, rfl, by simp, ⟨rfl, by simp, fun h => by simp at h⟩⟩, by simp, by simp⟩
  · have hle : len ≤ m := by rw [hmm]; split <;> omega
    have hall : ∀ i, i < len → ∃ y, ∃ cs', w.cells? base (a.add (i * P.cellsOf e)) (P.cellsOf e) = some cs' ∧ d.K w y cs' ∧ ok y := by
      intro i hil
      obtain ⟨cs', h1, h2⟩ := hi i (by omega)
      obtain ⟨y, h3, h4⟩ := h H enc w base spare held n cs' _ h2
      exact ⟨y, cs', h1, h3, h4⟩
    have hf : ∃ f : List α, f.length = len ∧ ∀ i y, f[i]? = some y → ∃ cs', w.cells? base (a.add (i * P.cellsOf e)) (P.cellsOf e) = some cs' ∧ d.K w y cs' ∧ ok y := by
      clear hx hi hxx hmm hle hl
      induction len with
      | zero => exact ⟨[], rfl, fun i y hy => by simp at hy⟩
      | succ len ih =>
        obtain ⟨f, hl, hf⟩ := ih (fun i hi => hall i (by omega))
        obtain ⟨y, hy⟩ := hall len (by omega)
        refine ⟨f ++ [y], by simp [hl], fun i z hz => ?_⟩
        rcases Nat.lt_or_ge i len with hil | hil
        · exact hf i z (by rw [← hz, List.getElem?_append_left (by omega)])
        · rw [List.getElem?_append_right (by omega)] at hz
          have hie : i - f.length = 0 := by
            have := (List.getElem?_eq_some_iff.1 hz).1
            simp at this
            omega
          rw [hie] at hz
          simp at hz
          subst hz
          have : i = len := by omega
          subst this
          exact hy
    obtain ⟨f, hfl, hf⟩ := hf
    have hm9 : maxLen = 9223372036854775807 := by simp only [maxLen]
    subst hfl
    refine ⟨f, ⟨some a, cap, rfl, by omega, rfl, by omega, fun _ => ⟨a, rfl, fun j p hj => ?_⟩⟩, by omega, fun y hy => ?_⟩
    · obtain ⟨cs', h1, h2, h3⟩ := hf j p hj
      rw [hs] at h1
      obtain ⟨_, hcl, hat⟩ := World.cells?_some h1
      refine ⟨cs', by omega, h2, fun i u hu => ?_⟩
      have hil : i < cs'.length := (List.getElem?_eq_some_iff.1 hu).1
      have h4 := hat i (by omega)
      rw [← Go.Deep.add_add, h4, hu]
    · obtain ⟨i, hi', hy⟩ := List.mem_iff_getElem.1 hy
      obtain ⟨cs', _, _, h3⟩ := hf i y (by rw [← hy]; exact List.getElem?_eq_getElem hi')
      exact h3
theorem rdf_one {α : Type} {d : Kd α} {ok : α → Prop} (h : Rd P t d ok) : RdF P [t] d ok := by
  intro H enc w base spare held vs hl hv
  match vs, hl with
  | [v], _ =>
    obtain ⟨fuel, x, hx⟩ := hv 0 t v rfl rfl
    exact h H enc w base spare held fuel [v] x hx
theorem rdf_cons {α β : Type} {d : Kd α} {d' : Kd β} {ok : α → Prop} {ok' : β → Prop} {ts : List TypeId} (h : Rd P t d ok) (h' : RdF P ts d' ok') : RdF P (t :: ts) (Kd.pair d d') (fun p => ok p.1 ∧ ok' p.2) := by
  intro H enc w base spare held vs hl hv
  match vs, hl with
  | v :: vs, hl =>
    obtain ⟨fuel, x, hx⟩ := hv 0 t v rfl rfl
    obtain ⟨a, ha, hoa⟩ := h H enc w base spare held fuel [v] x hx
    obtain ⟨b, hb, hob⟩ := h' H enc w base spare held vs (by simpa using hl) (fun i t' v' h1 h2 => hv (i + 1) t' v' (by simpa using h1) (by simpa using h2))
    exact ⟨(a, b), ⟨[v], vs, rfl, ha, hb⟩, hoa, hob⟩
theorem rd_struct {α : Type} {d : Kd α} {ok : α → Prop} {fs : Array Field} (ht : P.underlying t = some (.struct fs)) (hone : oneCellFields P fs = true) (hC : P.cellsOf t = fs.size) (h : RdF P (fs.toList.map (·.type)) d ok) : Rd P t d ok := by
  intro H enc w base spare held fuel cs x hx
  obtain ⟨xs, n, hn', hy, hlen, hyl, hf⟩ := DataW.trod_struct ht hx
  refine h H enc w base spare held cs (by simp only [List.length_map, Array.length_toList]; omega) (fun j t' v hj hv => ?_)
  rw [List.getElem?_map] at hj
  obtain ⟨f, hfj, rfl⟩ := Option.map_eq_some_iff.1 hj
  rw [Array.getElem?_toList] at hfj
  obtain ⟨ho, hk⟩ := hone_of hone j f hfj
  have hjl : j < fs.size := (Array.getElem?_eq_some_iff.1 hfj).1
  have h1 := hf j f hfj
  rw [ho, hk] at h1
  have hvl : j < cs.length := (List.getElem?_eq_some_iff.1 hv).1
  have hve : cs[j]'hvl = v := (List.getElem?_eq_some_iff.1 hv).2
  have hone' : (cs.drop j).take 1 = [v] := by
    rw [List.drop_eq_getElem_cons hvl, hve]
    rfl
  rw [hone'] at h1
  have hys : xs[j]? = some (xs[j]'(by omega)) := List.getElem?_eq_getElem (by omega)
  exact ⟨_, _, h1.trans hys⟩
theorem rd_iso {α β : Type} {d : Kd α} {ok : α → Prop} (f : β → α) (g : α → β) (hg : ∀ a, f (g a) = a) (h : Rd P t d ok) : Rd P t (Kd.iso d f) (fun b => ok (f b)) := by
  intro H enc w base spare held fuel cs x hx
  obtain ⟨a, ha, ho⟩ := h H enc w base spare held fuel cs x hx
  refine ⟨g a, ?_, ?_⟩
  · show d.K w (f (g a)) cs
    rw [hg]; exact ha
  · show ok (f (g a))
    rw [hg]; exact ho
/-- An argument that is a struct by value: its cells. -/
theorem agg_of {H : Type} {enc : TypeId × Value → H} {w : World} {base : Nat} {spare : Nat → Bool} {held : Bool} {r : Reach} {b0 : Nat} {v : Value} {dd : DataW H} {p : List MemPlace} {fs : Array Field}
    (ht : P.underlying t = some (.struct fs)) (hv : Value.okWide P w r b0 t v) (h : DataW.Trod enc P w base spare held t v dd p) :
    ∃ l : List Value, v = .agg l.toArray ∧ ∃ fuel, DataW.trod enc P w base spare held fuel t l = some (dd, p) := by
  obtain ⟨cs, rfl, _⟩ := okWide_struct ht hv
  obtain ⟨fuel, hf⟩ := h
  refine ⟨cs.toList, by simp, fuel, ?_⟩
  simpa [Value.cells] using hf
/-- An argument that is a slice: its cell. -/
theorem slice_of {H : Type} {enc : TypeId × Value → H} {w : World} {base : Nat} {spare : Nat → Bool} {held : Bool} {r : Reach} {b0 : Nat} {v : Value} {dd : DataW H} {p : List MemPlace}
    (ht : P.underlying t = some (.slice e)) (hv : Value.okWide P w r b0 t v) (h : DataW.Trod enc P w base spare held t v dd p) : ∃ fuel, DataW.trod enc P w base spare held fuel t [v] = some (dd, p) := by
  obtain ⟨a, len, cap, rfl⟩ := okWide_slice ht hv
  obtain ⟨fuel, hf⟩ := h
  exact ⟨fuel, by simpa [Value.cells] using hf⟩
theorem okWide_f64 {w : World} {r : Reach} {b0 : Nat} {v : Value} (ht : P.underlying t = some (.float .f64)) (h : Value.okWide P w r b0 t v) : ∃ b, v = .float .f64 b := by
  simp only [Value.okWide, ht, Cell.okWide] at h
  cases v <;> simp_all [Cell.ok]
theorem f64_of {H : Type} {enc : TypeId × Value → H} {w : World} {base : Nat} {spare : Nat → Bool} {held : Bool} {r : Reach} {b0 : Nat} {v : Value} {dd : DataW H} {p : List MemPlace}
    (ht : P.underlying t = some (.float .f64)) (hv : Value.okWide P w r b0 t v) (h : DataW.Trod enc P w base spare held t v dd p) : ∃ b, v = .float .f64 b ∧ (Lit.float .f64 b).wf = true := by
  obtain ⟨b, rfl⟩ := okWide_f64 ht hv
  obtain ⟨fuel, hf⟩ := h
  cases fuel with
  | zero => simp [DataW.trod] at hf
  | succ n =>
    simp only [DataW.trod, Value.cells, ht] at hf
    by_cases hw : (Lit.float .f64 b).wf = true
    · exact ⟨b, rfl, hw⟩
    · simp [hw] at hf
end Go.Proofs.Ytgjhlkjfdlkndaa.Rd
