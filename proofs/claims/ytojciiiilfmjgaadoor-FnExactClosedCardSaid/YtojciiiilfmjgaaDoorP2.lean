/- Functions of the library that are taken by their contracts. -/
import Derived.Shelf.Strings.SplitCore
import Derived.Shelf.Strings.Search3
import Derived.Shelf.Strings.Count
import Derived.Test.YtojciiiilfmjgaaDoorEv7
import Derived.Test.YtojciiiilfmjgaaDoorV1
set_option linter.all false
namespace Go.Ev
open Go.Lib Go.Proofs

theorem does_none {V : Env} {f : Nat} {fn : Func} {b : Code} {sg : Sig} (h1 : V.P.funcs[f]? = some fn) (h2 : fn.body = some b) (hname : fn.name ≠ "runtime.NumGoroutine") : Does V f sg (fun _ => none) :=
  ⟨⟨fn, b, h1, h2, hname⟩, fun _ w G PA vals xs _ _ _ _ _ _ rs outs h => by (simp at h), fun m _ w N0 G PA vals xs _ _ _ _ _ _ _ _ _ d v _ _ _ rs outs h => by (simp at h), fun smi smo n _ w N0 G PA vals xs _ _ _ _ _ _ _ _ _ x v _ _ _ rs outs h => by (simp at h)⟩

/-- The scalars among what is handed on. -/
def flatVs : List X → Option (List Value)
  | [] => some []
  | .d (.v v) none :: xs => (flatVs xs).map (v :: ·)
  | _ :: _ => none

def flatF (g : List Value → Option (List Value)) (xs : List X) : Option (List X × List X) := match flatVs xs with
  | some vs => (g vs).map fun rs => (rs.map fun v => .d (.v v) none, xs.map fun _ => .u)
  | none => none

theorem flatVs_args {V : Env} {w : World} {G : Nat → Prop} {PA : Nat → Nat → Prop} : ∀ (xs : List X) (vals vs : List Value) (tys : List Nat) (k0 : Nat), flatVs xs = some vs → vals.length = xs.length → tys.length = xs.length →
    (∀ (i : Nat) (x : X) (v : Value) (ty : Nat), xs[i]? = some x → vals[i]? = some v → tys[i]? = some ty → ArgP V w G (PA (k0 + i)) .rd ty x v) → vals = vs
  | [], [], vs, _, _, h, _, _, _ => by simp only [flatVs, Option.some.injEq] at h; exact h
  | x :: xs, v :: vals, vs, ty :: tys, k0, h, hl, ht, ha => by
    have h0 := ha 0 x v ty rfl rfl rfl
    obtain ⟨e, _, hc⟩ := h0
    match x, h with
    | .d (.v a) none, h =>
      simp only [flatVs, Option.map_eq_some_iff] at h
      obtain ⟨vs', h1, rfl⟩ := h
      have ih := flatVs_args xs vals vs' tys (k0 + 1) h1 (by simpa using hl) (by simpa using ht) (by
        intro i x v ty p1 p2 p3
        have := ha (i + 1) x v ty (by simpa using p1) (by simpa using p2) (by simpa using p3)
        rwa [show k0 + (i + 1) = k0 + 1 + i by omega] at this)
      rcases hc with ⟨_, d, hx, _, hr⟩ | ⟨_, ds, vs2, hx, _⟩
      · cases hx
        cases hr
        rw [ih]
      · cases hx
  | [], _ :: _, _, _, _, _, hl, _, _ => by simp at hl
  | _ :: _, [], _, _, _, _, hl, _, _ => by simp at hl
  | _ :: _, _ :: _, _, [], _, _, _, ht, _ => by simp at ht

theorem rd_args {sg : Sig} {V : Env} {w : World} {G : Nat → Prop} {PA : Nat → Nat → Prop} {xs : List X} {vals vs : List Value} (hpm : sg.pms = List.replicate sg.tys.length .rd) (hvl : vals.length = sg.pms.length) (hxl : xs.length = sg.pms.length)
    (hargs : ∀ (i : Nat) (x : X) (v : Value) (pm : PM) (ty : Nat), xs[i]? = some x → vals[i]? = some v → sg.pms[i]? = some pm → sg.tys[i]? = some ty → ArgP V w G (PA i) pm ty x v) (h : flatVs xs = some vs) : vals = vs := by
  have hl : sg.pms.length = sg.tys.length := by rw [hpm]; simp
  refine flatVs_args (V := V) (w := w) (G := G) (PA := PA) xs vals vs sg.tys 0 h (by omega) (by omega) ?_
  intro i x v ty p1 p2 p3
  rw [Nat.zero_add]
  refine hargs i x v .rd ty p1 p2 ?_ p3
  rw [hpm, List.getElem?_replicate, if_pos]
  exact (List.getElem?_eq_some_iff.1 p3).1

/-- A function of scalars that leaves the world as it was. -/
theorem does_flat {V : Env} {f : Nat} {fn : Func} {b : Code} {sg : Sig} {g : List Value → Option (List Value)} {n : Nat} (h1 : V.P.funcs[f]? = some fn) (h2 : fn.body = some b) (hname : fn.name ≠ "runtime.NumGoroutine")
    (hpm : sg.pms = List.replicate sg.tys.length .rd) (hm : mutOk sg = none) (hi : ioOk sg = none) (hres : sg.res = List.replicate n (.c (.view []) .no)) (hg : ∀ vs rs, g vs = some rs → rs.length = n ∧ ∀ v ∈ rs, v.scalar = true)
    (H : ∀ vs rs w, g vs = some rs → Calls V.P f vs.toArray w fun e w' => e = .returned (packV rs) ∧ w' = w) : Does V f sg (flatF g) := by
  refine ⟨⟨fn, b, h1, h2, hname⟩, fun _ => ?_, fun m h => by (rw [hm] at h; cases h), fun smi smo n h => by (rw [hi] at h; cases h)⟩
  intro w G PA vals xs hT hvl hxl hG hPA hargs rs outs hF
  unfold flatF at hF
  split at hF
  · rename_i vs hvs
    simp only [Option.map_eq_some_iff, Prod.mk.injEq] at hF
    obtain ⟨r, hr, rfl, rfl⟩ := hF
    obtain rfl := rd_args hpm hvl hxl hargs hvs
    obtain ⟨hn, hsc⟩ := hg _ _ hr
    refine (H _ _ w hr).mono ?_
    rintro e w' ⟨rfl, rfl⟩
    refine ⟨r, ⟨fun _ => none, G, PA⟩, rfl, .refl _, (by intro b o h; cases h), (by intro b b' o o' h; cases h), fun b hb => .inl hb, fun b hb => hb, rfl, .none, by simp, by rw [hres]; simp [hn], ?_⟩
    intro k x v sm p1 p2 p3
    rw [List.getElem?_map, p2] at p1
    simp only [Option.map_some, Option.some.injEq] at p1
    subst p1
    rw [hres, List.getElem?_replicate] at p3
    split at p3
    · simp only [Option.some.injEq] at p3
      subst p3
      exact ⟨.v v, none, rfl, .view (.v (hsc v (List.mem_of_getElem? p2))), fun _ => rfl⟩
    · cases p3
  · cases hF

/-- The pieces of a text, as rows. -/
def rowsOf (l : List ByteArray) : List (List D) := l.map fun s => [.v (.string s)]

/-- What cutting a text at a byte answers. -/
def splitF (xs : List X) : Option (List X × List X) := match xs with
  | [.d (.v (.string s)) none, .d (.v (.string p)) none, .d (.v (.int .i64 0)) none, .d (.v (.int .i64 (-1))) none] =>
    if p.size = 1 ∧ s.size < 4294967281 then some ([.d (.sl 1 (rowsOf (splitB p 0 (countB s p) s))) none], [.u, .u, .u, .u]) else none
  | _ => none

theorem rowsOf_get {l : List ByteArray} {i j : Nat} {row : List D} {d : D} (h1 : (rowsOf l)[i]? = some row) (h2 : row[j]? = some d) : j = 0 ∧ ∃ s, l[i]? = some s ∧ d = .v (.string s) := by
  unfold rowsOf at h1
  rw [List.getElem?_map] at h1
  simp only [Option.map_eq_some_iff] at h1
  obtain ⟨s, h1, rfl⟩ := h1
  cases j with
  | zero => simp only [List.getElem?_cons_zero, Option.some.injEq] at h2; exact ⟨rfl, s, h1, h2.symm⟩
  | succ j => simp at h2

theorem does_split {P : Program} {ρ : Go.Shelf.Ren} {V : Env} {f : Nat} {fn : Func} {b : Code} {t0 t1 t2 t3 : Nat} (hV : V.P = P) (L : Lays.n221 P ρ) (hf : ρ.f 221 = f)
    (hi9 : (P.info? (ρ.t 9)).map (fun i => (i.zero, i.size, i.bytes)) = some (some (.string ByteArray.empty), 1, 16)) (h1 : V.P.funcs[f]? = some fn) (h2 : fn.body = some b) (hname : fn.name ≠ "runtime.NumGoroutine") :
    Does V f { pms := [.rd, .rd, .rd, .rd], tys := [t0, t1, t2, t3], res := [.c (.own [.view []]) .no] } splitF := by
  refine ⟨⟨fn, b, h1, h2, hname⟩, fun _ => ?_, fun m h => by (simp [mutOk] at h), fun smi smo n h => by (simp [ioOk] at h)⟩
  intro w G PA vals xs hT hvl hxl hG hPA hargs rs outs hF
  unfold splitF at hF
  split at hF
  · rename_i s p
    split at hF
    · rename_i hc
      obtain ⟨hp, hs⟩ := hc
      cases hF
      obtain rfl := rd_args (vs := [.string s, .string p, .int .i64 0, .int .i64 (-1)]) rfl hvl hxl hargs rfl
      obtain ⟨c, rfl⟩ := one_byte p hp
      have hct : Calls P (ρ.f 138) #[.string s, .string ⟨#[c]⟩] w fun e w' => e = .returned (.int .i64 (countB s ⟨#[c]⟩)) ∧ w' = w := by
        refine (Any.strings_Count_one { L with } s c w).mono fun e w' ⟨he, hw⟩ => ⟨?_, hw⟩
        rw [he]
        show _ = Ending.returned (Value.int .i64 ((Lib.count s.data.toList [c] : Nat) : Int))
        rw [Lib.count_one]
        rfl
      have hix : ∀ (x : ByteArray) (a : Array Value), x.size ≤ s.size → Calls P (ρ.f 143) #[.string x, .string ⟨#[c]⟩] (w.alloc (.cells a (ρ.t 9))) fun e w' => e = .returned (.int .i64 (indexB x ⟨#[c]⟩)) ∧ w' = w.alloc (.cells a (ρ.t 9)) := by
        intro x a _
        refine (Any.strings_Index_one { L with } x c _).mono fun e w' ⟨he, hw⟩ => ⟨?_, hw⟩
        rw [he, ← index_one]
      have hle := countB_le ⟨#[c]⟩ (Nat.le_refl 1) s.size s (Nat.le_refl _)
      have hlen := splitB_all ⟨#[c]⟩ (Nat.le_refl 1) 0 _ s rfl
      have core := Any.strings_genSplit_core L hi9 s ⟨#[c]⟩ 0 (-1) (countB s ⟨#[c]⟩ + 1) w hs (Nat.le_refl 1) (Nat.zero_le _) hix hct (by decide) (by decide) (by rw [if_pos (by decide)]; omega)
      rw [Nat.add_sub_cancel, hlen] at core
      generalize countB s ⟨#[c]⟩ = n at core hlen hle ⊢
      generalize splitB ⟨#[c]⟩ 0 n s = l at core hlen ⊢
      have e2 : cellsOf l (n + 1) = (l.map Value.string).toArray := by rw [← hlen]; exact cellsOf_full _
      rw [e2, hf] at core
      rw [hV]
      refine Calls.mono core ?_
      rintro e w' ⟨rfl, rfl⟩
      have hb : (w.alloc (.cells (l.map Value.string).toArray (ρ.t 9))).heap[w.heap.size]? = some (.cells (l.map Value.string).toArray (ρ.t 9) (0, 0)) := by
        exact Array.getElem?_push_size
      refine ⟨[.slice (some ⟨w.heap.size, 0, none⟩) (n + 1) (n + 1)], ⟨fun b => if b = w.heap.size then some ⟨⟨0, []⟩, 0, n + 1, 1⟩ else none, G, PA⟩, rfl, ⟨?_, ?_, ?_⟩, ?_, ?_, fun b hb => .inl hb, fun b hb => hb, rfl, ?_, rfl, rfl, ?_⟩
      · show _ ≤ (Array.push _ _).size
        rw [Array.size_push]; omega
      · intro b hb
        show (Array.push _ _)[b]? = _
        rw [Array.getElem?_push, if_neg (by omega)]
      · exact ⟨rfl, rfl, rfl⟩
      · intro b o ho
        simp only at ho
        split at ho
        · rename_i e; subst e; cases ho
          refine ⟨Nat.le_refl _, (by show _ < (Array.push _ _).size; rw [Array.size_push]; omega), ?_, by simp⟩
          intro hg
          exact absurd (hG _ hg) (Nat.lt_irrefl _)
        · cases ho
      · intro b b' o o' q1 q2 _
        simp only at q1 q2
        split at q1
        · split at q2
          · rename_i e1 e2; rw [e1, e2]
          · cases q2
        · cases q1
      · intro b o ho
        simp only at ho
        split at ho
        · rename_i e; subst e; cases ho
          exact ⟨_, _, hb, by simp [hlen]⟩
        · cases ho
      · intro k x v sm p1 p2 p3
        cases k with
        | succ k => simp at p1
        | zero =>
          simp only [List.getElem?_cons_zero, Option.some.injEq] at p1 p2 p3
          subst p1; subst p2; subst p3
          have hrl : (rowsOf l).length = n + 1 := by simp [rowsOf, hlen]
          refine ⟨.sl 1 (rowsOf l), none, rfl, ?_, fun _ => rfl⟩
          rw [← hrl]
          refine .own (by simp [hrl]) hb (by omega) (by simp [hlen, hrl]) rfl (by decide) ?_ ?_
          · intro row hrow
            simp only [rowsOf, List.mem_map] at hrow
            obtain ⟨s, _, rfl⟩ := hrow
            rfl
          · intro i j row d m q1 q2 q3
            obtain ⟨rfl, s', hs', rfl⟩ := rowsOf_get q1 q2
            simp only [List.getElem?_cons_zero, Option.some.injEq] at q3
            subst q3
            have : ((l.map Value.string).toArray).getD (0 + i * 1 + 0) undef = .string s' := by
              simp only [Nat.zero_add, Nat.mul_one, Nat.add_zero]
              rw [Array.getD_eq_getD_getElem?]
              simp [hs']
            rw [this]
            exact .view (.v rfl)
    · cases hF
  · cases hF

theorem splitF_eq {c : UInt8} {s : ByteArray} (h : s.size < 4294967281) : splitF [.d (.v (.string s)) none, .d (.v (.string ⟨#[c]⟩)) none, .d (.v (.int .i64 0)) none, .d (.v (.int .i64 (-1))) none] = some ([.d (.sl 1 (rowsOf (splitP c s))) none], [.u, .u, .u, .u]) := by
  simp only [splitF]
  rw [if_pos ⟨rfl, h⟩, splitB_P]
@[simp] theorem rowsOf_length (l : List ByteArray) : (rowsOf l).length = l.length := by simp [rowsOf]
@[simp] theorem rowsOf_at (l : List ByteArray) (k : Nat) (h : k < (rowsOf l).length) : (rowsOf l)[k] = [.v (.string (l[k]'(by simpa using h)))] := by simp [rowsOf]
@[simp] theorem rowsOf_at? (l : List ByteArray) (k : Nat) : (rowsOf l)[k]? = (l[k]?).map fun s => [.v (.string s)] := by simp [rowsOf]
theorem rowsOf_snoc (l : List ByteArray) (s : ByteArray) : rowsOf l ++ [[.v (.string s)]] = rowsOf (l ++ [s]) := by simp [rowsOf]
end Go.Ev
