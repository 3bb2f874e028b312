/-
  A part of the proof: see the text of the law.
-/
import Derived.Test.YtlkmgeahdidjeaaEar
import Derived.Test.YtlkmgeahdidjeaaEal
import Derived.Test.YtlkmgeahdidjeaaEao
set_option linter.unusedSimpArgs false
set_option linter.unusedVariables false
namespace Go.Proofs.Try
open Go.Al
set_option linter.unusedVariables false
set_option linter.unusedSimpArgs false
set_option maxRecDepth 20000
set_option maxHeartbeats 8000000

/-- Writes. -/
structure Wr where
  tab : Int
  row : Int
  dead : Bool
  vals : List VL
  deriving DecidableEq
instance : Inhabited Wr := ⟨⟨0, 0, false, []⟩⟩
abbrev Wr.cs (v : Wr) : List AV := [.int .i64 v.tab, .int .i64 v.row, .bool v.dead, .view 3 (v.vals.map VL.av)]
def Wr.av (v : Wr) : AV := .agg v.cs
theorem wr_av (v : Wr) : v.av = .agg v.cs := rfl
theorem vw_wr {H : List AObj} {l : List Nat} {n : Nat} (v : Wr) : vw H l (n + 1) v.av = v.av := by simp [Wr.av, vw_agg, vw_int, vw_bool, vw_view]
theorem pa_wr {H : List AObj} {l : List Nat} {bor : Bool} {n : Nat} (v : Wr) : pa H l bor (n + 1) v.av = v.av := by simp [Wr.av, pa_agg, pa_int, pa_bool, pa_view]
theorem vw_wrs {H : List AObj} {l : List Nat} {n : Nat} {xs : List Wr} : (xs.map Wr.av).map (vw H l (n + 1)) = xs.map Wr.av := map_same vw_wr xs
theorem pa_wrs {H : List AObj} {l : List Nat} {bor : Bool} {n : Nat} {xs : List Wr} : (xs.map Wr.av).map (pa H l bor (n + 1)) = xs.map Wr.av := map_same pa_wr xs
theorem IdxR_wrs {P : Program} {m : Nat} {N : FN} {xs : List Wr} {n : Int} {d : Nat} {c : Kn} (h0 : 0 ≤ n) (h1 : n < xs.length) : IdxR P m N (xs.map Wr.av) n d c = rK P m N c d (.vp (xs.getD n.toNat default).cs) :=
  IdxR_map (cs := Wr.cs) (fun _ => rfl) h0 h1

/-! ### a set of numbers as a map -/
theorem find_n {r : Int} : ∀ (K : List Int) (i : Nat), (r ∉ K → findK (.int .i64) (.int .i64 r) (K.map (AV.int .i64)) i = some none) ∧ (r ∈ K → ∃ j, j < K.length ∧ findK (.int .i64) (.int .i64 r) (K.map (AV.int .i64)) i = some (some (i + j)))
  | [], i => ⟨fun _ => rfl, fun h => by simp at h⟩
  | u :: l, i => by
    obtain ⟨h1, h2⟩ := find_n (r := r) l (i + 1)
    simp only [List.map_cons, findK, eqK, and_self, if_true]
    by_cases hs : r = u
    · subst hs
      exact ⟨fun h => by simp at h, fun _ => ⟨0, by simp, by simp⟩⟩
    · simp only [decide_eq_false hs]
      refine ⟨fun h => h1 (fun h' => h (by simp [h'])), fun h => ?_⟩
      rcases List.mem_cons.1 h with h | h
      · exact absurd h hs
      obtain ⟨j, hj, he⟩ := h2 h
      exact ⟨j + 1, by simpa using hj, by rw [he]; congr 2; omega⟩
theorem look_n {r : Int} {K : List Int} : Al.look (.int .i64) (.bool false) (K.map (AV.int .i64)) (K.map fun _ => AV.bool true) (.int .i64 r) = some (.bool (decide (r ∈ K)), decide (r ∈ K)) := by
  obtain ⟨h1, h2⟩ := find_n (r := r) K 0
  unfold Al.look
  by_cases hm : r ∈ K
  · obtain ⟨j, hj, he⟩ := h2 hm
    simp [keyIs, keysOk, he, hj, hm]
  · simp [keyIs, keysOk, h1 hm, hm]
theorem set_same {α β : Type} {b : β} : ∀ (K : List α) (j : Nat), (K.map fun _ => b).set j b = K.map fun _ => b
  | [], _ => rfl
  | x :: K, 0 => rfl
  | x :: K, j + 1 => by simp [set_same K j]
theorem put_n {r : Int} {K : List Int} (bs : List Nat) (c : Nat) : ∃ (K' : List Int) (bs' : List Nat) (c' : Nat), putK (.int .i64) (K.map (AV.int .i64)) (K.map fun _ => AV.bool true) bs c (.int .i64 r) (.bool true) = some (.map (K'.map (AV.int .i64)) (K'.map fun _ => AV.bool true) bs' c') ∧ ∀ s, s ∈ K' ↔ s ∈ K ∨ s = r := by
  obtain ⟨h1, h2⟩ := find_n (r := r) K 0
  unfold putK
  by_cases hm : r ∈ K
  · obtain ⟨j, hj, he⟩ := h2 hm
    refine ⟨K, bs, c, by simp [keyIs, keysOk, he, set_same], fun s => ⟨.inl, fun h => ?_⟩⟩
    rcases h with h | rfl <;> assumption
  · exact ⟨K ++ [r], bs ++ [c], c + 1, by simp [keyIs, keysOk, h1 hm], fun s => by simp⟩

/-! ### Add -/
def okW (w : Wr) : Prop := 1 ≤ w.row ∧ w.row ≤ 1073741824 ∧ (w.dead = true → w.vals = [])
instance (v : Wr) : Decidable (okW v) := by unfold okW; infer_instance
def Wr.toV (s : Int) (w : Wr) : Ver := ⟨w.row, s, w.dead, w.vals⟩
def addE (l : List Ver) (s : Int) (w : List Wr) : Int := if s ≤ last l ∨ s > 1073741824 then 1 else if ∀ x ∈ w, okW x then (if (w.map Wr.row).Nodup then 0 else 6) else 1
def addL (l : List Ver) (s : Int) (w : List Wr) : List Ver := if addE l s w = 0 then ordered (l ++ w.map (Wr.toV s)) else []
def dupB (l : List Int) : Bool := decide (¬ l.Nodup)
theorem dup_next {l : List Int} {r : Int} : dupB (l ++ [r]) = (dupB l || decide (r ∈ l)) := by
  simp only [dupB, ← Bool.decide_or]
  congr 1
  rw [List.nodup_append]
  simp
  constructor
  · intro h
    by_cases hn : l.Nodup
    · exact .inr (h hn)
    · exact .inl hn
  · rintro (h | h) hn
    · exact absurd hn h
    · exact h
theorem keepne_i {Q : AV → List AObj → Prop} {H : List AObj} {q : IntKind} {b : Int} (sz : Nat) (h : Q (.tup [.view sz [], .int q b]) (pH H [] false 8)) : keepQ 0 Q (.tup [.raw (.slice none 0 0), .int q b]) H := keepw_i [] false rfl (by simp) rfl (weak_nil.tup2 (.refl _)) h
theorem okW_next {w : List Wr} {i : Nat} (hi : i < w.length) (h : ∀ x ∈ w.take i, okW x) (h1 : okW (w.getD i default)) : ∀ x ∈ w.take (i + 1), okW x := by
  rw [take_succD hi]
  intro x hx
  rcases List.mem_append.1 hx with hx | hx
  · exact h x hx
  · simp only [List.mem_singleton] at hx; rw [hx]; exact h1
theorem badW {w : List Wr} {i : Nat} (hi : i < w.length) (h : ¬ okW (w.getD i default)) : ¬ ∀ x ∈ w, okW x := fun hg => h (hg _ (by simp [hi]))
theorem le_foldl_max : ∀ (l : List Ver) (m : Int), m ≤ l.foldl (fun m v => max m v.stamp) m ∧ ∀ v ∈ l, v.stamp ≤ l.foldl (fun m v => max m v.stamp) m
  | [], m => ⟨Int.le_refl _, fun v hv => by simp at hv⟩
  | x :: l, m => by
    obtain ⟨h1, h2⟩ := le_foldl_max l (max m x.stamp)
    rw [List.foldl_cons]
    refine ⟨by omega, fun v hv => ?_⟩
    rcases List.mem_cons.1 hv with rfl | hv
    · omega
    · exact h2 v hv
theorem last_le (l : List Ver) (v : Ver) (hv : v ∈ l) : v.stamp ≤ last l := (le_foldl_max l 0).2 v hv
theorem diff_new {l : List Ver} {s : Int} {w : List Wr} (hd : diff l) (hs : last l < s) (hw : (w.map Wr.row).Nodup) : diff (l ++ w.map (Wr.toV s)) := by
  refine List.pairwise_append.2 ⟨hd, ?_, fun a ha b hb => ?_⟩
  · rw [List.pairwise_map]
    rw [List.nodup_iff_pairwise_ne, List.pairwise_map] at hw
    exact hw.imp fun h => fun e => h e.1
  · rintro ⟨_, h2⟩
    obtain ⟨x, _, rfl⟩ := List.mem_map.1 hb
    have := last_le l a ha
    simp only [Wr.toV] at h2
    omega
end Go.Proofs.Try
