/- Trimmed by wip/trim.py to what this claim rests on. -/
import Derived.Test.YtkdjkkimngeloaaXB12
import Derived.Test.YtkdjkkimngeloaaXB13
namespace Go.Proofs.Ytkdjkkimngeloaa
open Go.RowKit
section
variable {P : Program} {σ : Hp}
theorem O8 {d : Nat} {t : TypeId} {a c : Int} {K : Bool → Prop} (hu : P.underlying t = some (.int .i64)) (hk : K (a == c)) : ywp P (Op.equalIn (d + 1) t (.int .i64 a) (.int .i64 c)) K σ := by
  unfold Op.equalIn
  refine AO hu ?_
  dsimp only
  rw [if_pos rfl]
  exact hk
theorem RN {t : TypeId} {f1 f2 : Field} {a b c d : Int} {K : Bool → Prop} (hu : P.underlying t = some (.struct #[f1, f2])) (hp : P.stoodInHeld t = false)
    (n1 : f1.name ≠ "_") (n2 : f2.name ≠ "_") (o1 : f1.offset = 0) (o2 : f2.offset = 1) (u1 : P.underlying f1.type = some (.int .i64)) (u2 : P.underlying f2.type = some (.int .i64))
    (hk : K (decide (a = c) && decide (b = d))) : ywp P (Op.equal t (.agg #[.int .i64 a, .int .i64 b]) (.agg #[.int .i64 c, .int .i64 d])) K σ := by
  have isA : ∀ {f : Field}, P.underlying f.type = some (.int .i64) → Dy P f.type = false := fun {f} h => by unfold Dy; rw [h]
  have prt : ∀ {f : Field} {x y v : Value} {i : Nat} {K : Value → Prop}, P.underlying f.type = some (.int .i64) → f.offset = i → #[x, y][i]? = some v → K v → ywp P (part f.type #[x, y] f.offset) K σ := fun {f x y v i K} h1 h2 h3 h4 => by
    unfold part
    refine CB h1 ?_
    rw [isA h1, h2]
    show ywp P (match #[x, y][i]? with | some v => pure v | none => stuck "part: no such cell") _ _
    rw [h3]
    exact h4
  show ywp P (Op.equalIn (9999 + 1) t _ _) K σ
  unfold Op.equalIn
  refine AO hu ?_
  refine An _ _ _ _ ?_
  show ywp P (if P.stoodInHeld t = true then _ else _) _ σ
  rw [hp, if_neg (by decide), ← Array.forIn_toList]
  refine An _ _ _ _ ?_
  show ywp P (forIn [f1, f2] _ _) _ σ
  rw [List.forIn_cons]
  refine An _ _ _ _ ?_
  dsimp only
  rw [if_pos n1]
  refine An _ _ _ _ (prt u1 o1 rfl ?_)
  refine An _ _ _ _ (prt u1 o1 rfl ?_)
  refine An _ _ _ _ ?_
  refine O8 (d := 9998) u1 ?_
  by_cases h1 : a = c
  · subst h1
    rw [show (a == a) = true by simp]
    rw [if_neg (by decide)]
    show ywp P (forIn [f2] _ _) _ _
    rw [List.forIn_cons]
    refine An _ _ _ _ ?_
    rw [if_pos n2]
    refine An _ _ _ _ (prt u2 o2 rfl ?_)
    refine An _ _ _ _ (prt u2 o2 rfl ?_)
    refine An _ _ _ _ ?_
    refine O8 (d := 9998) u2 ?_
    by_cases h2 : b = d
    · subst h2
      rw [show (b == b) = true by simp]
      have hk : K true := by simpa using hk
      exact hk
    · rw [show (b == d) = false by simpa using h2]
      simp only [h2, decide_false, Bool.and_false] at hk
      exact hk
  · rw [show (a == c) = false by simpa using h1]
    simp only [h1, decide_false, Bool.false_and] at hk
    exact hk
theorem O5 {α : Type} {b : Nat} {o : Obj} {w : Bool} {f : Obj → Sem α} {K : α → Prop} (hb : σ b = some (o, w)) (hc : Hp.isCells o = false) (h : ywp P (f o) K σ) : ywp P (getObj b >>= f) K σ :=
  An _ _ _ _ ⟨_, _, hb, hc, h⟩
structure Kj (P : Program) (t kt et : TypeId) (f1 f2 : Field) : Prop where
  um : P.underlying t = some (.map kt et)
  hu : P.underlying kt = some (.struct #[f1, f2])
  hp : P.stoodInHeld kt = false
  n1 : f1.name ≠ "_"
  n2 : f2.name ≠ "_"
  o1 : f1.offset = 0
  o2 : f2.offset = 1
  u1 : P.underlying f1.type = some (.int .i64)
  u2 : P.underlying f2.type = some (.int .i64)
def BK (p : Plc) : Value := .agg #[.int .i64 p.1, .int .i64 p.2]
theorem RA {t kt et : TypeId} {f1 f2 : Field} (hk : Kj P t kt et f1 f2) {p q : Plc} {K : Bool → Prop} (h : K (decide (q = p))) : ywp P (Op.equal kt (BK p) (BK q)) K σ := by
  refine RN hk.hu hk.hp hk.n1 hk.n2 hk.o1 hk.o2 hk.u1 hk.u2 ?_
  have e : (decide (p.1 = q.1) && decide (p.2 = q.2)) = decide (q = p) := by
    rw [← Bool.decide_and]
    refine decide_eq_decide.2 ⟨fun h => Prod.ext h.1.symm h.2.symm, ?_⟩
    rintro rfl
    exact ⟨rfl, rfl⟩
  rw [e]
  exact h
theorem NO {t kt et : TypeId} {f1 f2 : Field} (hk : Kj P t kt et f1 f2) {b : Bool} {p : Plc} {K : Unit → Prop} (h : K ()) : ywp P (Instr.checkKey b 10000 kt (BK p)) K σ := by
  have isA : ∀ {f : Field}, P.underlying f.type = some (.int .i64) → Dy P f.type = false := fun {f} h => by unfold Dy; rw [h]
  have prt : ∀ {f : Field} {x y v : Value} {i : Nat} {K : Value → Prop}, P.underlying f.type = some (.int .i64) → f.offset = i → #[x, y][i]? = some v → K v → ywp P (part f.type #[x, y] f.offset) K σ := fun {f x y v i K} h1 h2 h3 h4 => by
    unfold part
    refine CB h1 ?_
    rw [isA h1, h2]
    show ywp P (match #[x, y][i]? with | some v => pure v | none => stuck "part: no such cell") _ _
    rw [h3]
    exact h4
  have one : ∀ {f : Field} {z : Int} {K : Unit → Prop}, P.underlying f.type = some (.int .i64) → K () → ywp P (Instr.checkKey b 9999 f.type (.int .i64 z)) K σ := fun {f z K} h1 h2 => by
    show ywp P (Instr.checkKey b (9998 + 1) f.type (.int .i64 z)) K σ
    unfold Instr.checkKey
    exact AO h1 h2
  show ywp P (Instr.checkKey b (9999 + 1) kt (.agg #[.int .i64 p.1, .int .i64 p.2])) K σ
  rw [Instr.checkKey]
  refine AO hk.hu ?_
  show ywp P (forIn #[f1, f2] _ _ >>= _) _ σ
  rw [← Array.forIn_toList]
  refine An _ _ _ _ ?_
  show ywp P (forIn [f1, f2] _ _) _ σ
  rw [List.forIn_cons]
  refine An _ _ _ _ ?_
  rw [if_pos hk.n1]
  refine An _ _ _ _ (prt hk.u1 hk.o1 rfl ?_)
  refine An _ _ _ _ (one hk.u1 ?_)
  show ywp P (forIn [f2] _ _) _ _
  rw [List.forIn_cons]
  refine An _ _ _ _ ?_
  rw [if_pos hk.n2]
  refine An _ _ _ _ (prt hk.u2 hk.o2 rfl ?_)
  refine An _ _ _ _ (one hk.u2 ?_)
  exact h
end
section
variable {ν : Type}
def mes (en : ν → Value) : Nat → List (Plc × ν) → List MapEntry
  | _, [] => []
  | i, e :: es => ⟨BK e.1, en e.2, i⟩ :: mes en (i + 1) es
def mpo (en : ν → Value) (E : List (Plc × ν)) : Obj := .map ⟨mes en 0 E⟩ E.length
def IR : List (Plc × ν) → Plc → Nat → Option (Nat × ν)
  | [], _, _ => none
  | e :: es, p, i => if e.1 = p then some (i, e.2) else IR es p (i + 1)
theorem L8 : ∀ {E : List (Plc × ν)} {p : Plc} {i : Nat}, (IR E p i).map Prod.snd = lkA E p
  | [], _, _ => rfl
  | e :: es, p, i => by
    unfold IR lkA
    split
    · rfl
    · exact L8
theorem HW {en : ν → Value} : ∀ {E : List (Plc × ν)} {i : Nat}, (mes en i E).length = E.length
  | [], _ => rfl
  | _ :: _, _ => congrArg (· + 1) HW
theorem JF {en : ν → Value} : ∀ {E : List (Plc × ν)} {i k : Nat} (h : k < E.length), (mes en i E)[k]'(by rw [HW]; exact h) = ⟨BK E[k].1, en E[k].2, i + k⟩
  | e :: es, i, 0, _ => rfl
  | e :: es, i, k + 1, h => by
    have := JF (en := en) (E := es) (i := i + 1) (k := k) (by simpa using h)
    simp only [mes, List.getElem_cons_succ]
    rw [this]
    congr 1
    omega
theorem Ot {en : ν → Value} : ∀ {E : List (Plc × ν)} {i : Nat} {p : Plc} {v : ν}, mes en i (E ++ [(p, v)]) = mes en i E ++ [⟨BK p, en v, i + E.length⟩]
  | [], i, p, v => by simp [mes]
  | e :: es, i, p, v => by
    have := Ot (en := en) (E := es) (i := i + 1) (p := p) (v := v)
    simp only [List.cons_append, mes, this, List.length_cons]
    congr 4
    omega
theorem Ko : ∀ {E : List (Plc × ν)} {p : Plc} {v : ν}, lkA E p = none → upA E p v = E ++ [(p, v)]
  | [], _, _, _ => rfl
  | e :: es, p, v, h => by
    unfold lkA at h
    unfold upA
    split at h
    · cases h
    · rename_i hn
      rw [if_neg hn, Ko h]
      rfl
theorem Q2 {en : ν → Value} : ∀ {E : List (Plc × ν)} {i k : Nat} {p : Plc} {v u : ν}, IR E p i = some (i + k, u) → (mes en i E).modify k (fun e => { e with key := BK p, val := en v }) = mes en i (upA E p v) ∧ (upA E p v).length = E.length ∧ ∃ h : k < E.length, E[k].1 = p
  | [], _, _, _, _, _, h => by cases h
  | e :: es, i, k, p, v, u, h => by
    unfold IR at h
    unfold upA
    split at h
    · rename_i e1
      have hk : k = 0 := by
        have := congrArg Prod.fst (Option.some.inj h)
        have : i = i + k := this
        omega
      subst hk
      rw [if_pos e1]
      refine ⟨?_, rfl, by simp, e1⟩
      simp [mes, List.modify_zero_cons]
    · rename_i e1
      rw [if_neg e1]
      cases k with
      | zero =>
        exfalso
        have key : ∀ {es : List (Plc × ν)} {j i : Nat} {u : ν}, IR es p j = some (i, u) → j ≤ i := by
          intro es
          induction es with
          | nil => intro j i u h; cases h
          | cons a es ih =>
            intro j i u h
            unfold IR at h
            split at h
            · cases h; exact Nat.le_refl _
            · have := ih h; omega
        have := key h
        omega
      | succ k =>
        have e2 : i + (k + 1) = (i + 1) + k := by omega
        rw [e2] at h
        obtain ⟨a, b, hk, c⟩ := Q2 (en := en) (v := v) h
        refine ⟨?_, by simp [b], by simp; omega, by simpa using c⟩
        simp only [mes, List.modify_succ_cons]
        rw [a]
end
section
variable {P : Program} {σ : Hp} {ν : Type} {en : ν → Value} {t kt et : TypeId} {f1 f2 : Field}
theorem OP (hk : Kj P t kt et f1 f2) {p : Plc} {K : Option (Nat × Value) → Prop} : ∀ {E : List (Plc × ν)} {i j : Nat}, K ((IR E p i).map fun r => (r.1, en r.2)) → ywp P (Instr.findAsking kt (BK p) (mes en j E) i) K σ
  | [], i, j, h => h
  | e :: es, i, j, h => by
    unfold mes Instr.findAsking
    refine An _ _ _ _ (RA hk ?_)
    unfold IR at h
    by_cases c : e.1 = p
    · rw [if_pos c] at h
      simp only [c, decide_true, if_true]
      exact h
    · rw [if_neg c] at h
      simp only [c, decide_false, Bool.false_eq_true, if_false]
      exact OP hk h
theorem Ki (hk : Kj P t kt et f1 f2) {p : Plc} {K : Option (Nat × Value) → Prop} {E : List (Plc × ν)} (h : K ((IR E p 0).map fun r => (r.1, en r.2))) : ywp P (Instr.findKey kt (BK p) (mes en 0 E)) K σ := by
  unfold Instr.findKey
  refine AO hk.hu ?_
  cases E with
  | nil => exact h
  | cons e es => exact OP hk h
theorem QN (hk : Kj P t kt et f1 f2) {b : Nat} {p : Plc} {v : ν} {E : List (Plc × ν)} {K : Hp → Prop} (hb : σ b = some (mpo en E, true)) (h : K (σ.ins b (mpo en (upA E p v)))) : upm P t (.map (some b)) (BK p) (en v) σ K := by
  unfold upm Instr.mapUpdate
  refine GR hk.um ?_
  show swp P (getObj b >>= _) _ σ
  refine AH _ _ _ _ ⟨_, _, hb, rfl, ?_⟩
  show swp P (Instr.checkKey false 10000 kt (BK p) >>= _) _ σ
  refine AH _ _ _ _ (Ok _ _ (NO hk ?_))
  refine AH _ _ _ _ (Ok _ _ (Ki (en := en) (E := E) hk ?_))
  cases hf : IR E p 0 with
  | none =>
    have hl : lkA E p = none := by rw [← L8 (i := 0), hf]; rfl
    refine ⟨_, hb, rfl, ?_⟩
    have e : mpo en (upA E p v) = .map ((⟨mes en 0 E⟩ : Array MapEntry).push { key := BK p, val := en v, born := E.length }) (E.length + 1) := by
      unfold mpo
      rw [Ko hl, Ot]
      simp
    rw [e] at h
    exact h
  | some r =>
    obtain ⟨i, u⟩ := r
    obtain ⟨a, c, hi, d⟩ := Q2 (en := en) (i := 0) (k := i) (v := v) (by rw [Nat.zero_add]; exact hf)
    have hold : (((⟨mes en 0 E⟩ : Array MapEntry)[i]?).map (·.key)).getD (BK p) = BK p := by
      have : (⟨mes en 0 E⟩ : Array MapEntry)[i]? = some ⟨BK E[i].1, en E[i].2, 0 + i⟩ := by
        rw [← Array.getElem?_toList]
        show (mes en 0 E)[i]? = _
        rw [List.getElem?_eq_getElem (by rw [HW]; exact hi), JF hi]
      rw [this]
      show BK E[i].1 = _
      rw [d]
    show swp P (Instr.keyThatStays ((((⟨mes en 0 E⟩ : Array MapEntry)[i]?).map (·.key)).getD (BK p)) (BK p) >>= _) _ σ
    rw [hold]
    unfold Instr.keyThatStays
    have hs : Instr.sameBits 10000 (BK p) (BK p) = true := by
      show Instr.sameBits (9999 + 1) (.agg #[.int .i64 p.1, .int .i64 p.2]) (.agg #[.int .i64 p.1, .int .i64 p.2]) = true
      simp [Instr.sameBits]
    rw [if_pos hs]
    refine ⟨_, hb, rfl, ?_⟩
    have e : mpo en (upA E p v) = .map ((⟨mes en 0 E⟩ : Array MapEntry).modify i fun e => { e with key := BK p, val := en v }) E.length := by
      unfold mpo
      rw [c, ← a]
      simp
    rw [e] at h
    exact h
theorem SH (hk : Kj P t kt et f1 f2) {b : Nat} {p : Plc} {E : List (Plc × ν)} {i : TypeInfo} {z : ν} {w : Bool} {K : Value → Bool → Prop} (hi : P.info? et = some i) (hz : i.zero = some (en z)) (hb : σ b = some (mpo en E, w))
    (h : K (en ((lkA E p).getD z)) (lkA E p).isSome) : lko P t (.map (some b)) (BK p) σ K := by
  unfold lko Instr.lookup
  refine AO hk.um ?_
  refine An (P := P) (getObj b) _ _ _ ⟨_, _, hb, rfl, ?_⟩
  show ywp P (Instr.checkKey (⟨mes en 0 E⟩ : Array MapEntry).isEmpty 10000 kt (BK p) >>= _) _ σ
  refine An _ _ _ _ (NO hk ?_)
  refine An _ _ _ _ (Ki (en := en) (E := E) hk ?_)
  rw [← L8 (i := 0)] at h
  cases hf : IR E p 0 with
  | none =>
    rw [hf] at h
    refine An _ _ _ _ ?_
    unfold zeroValue
    refine An _ _ _ _ ?_
    unfold typeInfo
    refine An (P := P) program _ _ _ ?_
    show ywp P (match P.info? et with | some i => pure i | none => stuck "no such type") _ _
    rw [hi]
    show ywp P (match i.zero with | some v => pure v | none => _) _ _
    rw [hz]
    exact ⟨_, _, rfl, h⟩
  | some r =>
    rw [hf] at h
    exact ⟨_, _, rfl, h⟩
theorem Rl (hk : Kj P t kt et f1 f2) {b : Nat} {p : Plc} {E : List (Plc × ν)} {i : TypeInfo} {z : ν} {w : Bool} {K : Value → Prop} (hi : P.info? et = some i) (hz : i.zero = some (en z)) (hb : σ b = some (mpo en E, w))
    (h : K (en ((lkA E p).getD z))) : lkp P t (.map (some b)) (BK p) σ K := by
  unfold lkp Instr.lookup
  refine AO hk.um ?_
  refine An (P := P) (getObj b) _ _ _ ⟨_, _, hb, rfl, ?_⟩
  show ywp P (Instr.checkKey (⟨mes en 0 E⟩ : Array MapEntry).isEmpty 10000 kt (BK p) >>= _) _ σ
  refine An _ _ _ _ (NO hk ?_)
  refine An _ _ _ _ (Ki (en := en) (E := E) hk ?_)
  rw [← L8 (i := 0)] at h
  cases hf : IR E p 0 with
  | none =>
    rw [hf] at h
    refine An _ _ _ _ ?_
    unfold zeroValue
    refine An _ _ _ _ ?_
    unfold typeInfo
    refine An (P := P) program _ _ _ ?_
    show ywp P (match P.info? et with | some i => pure i | none => stuck "no such type") _ _
    rw [hi]
    show ywp P (match i.zero with | some v => pure v | none => _) _ _
    rw [hz]
    exact h
  | some r =>
    rw [hf] at h
    exact h
theorem Qy (hk : Kj P t kt et f1 f2) {m : Nat} {E : List (Plc × ν)} {w : Bool} {K : Nat → Hp → Prop} (hb : σ m = some (mpo en E, w)) (h : ∀ b, σ b = none → K b (σ.ins b (.mapIter (some m) E.length #[] E.length))) : rgm P t (.map (some m)) σ K := by
  unfold rgm Instr.range
  refine GR hk.um ?_
  refine AH (P := P) (getObj m) _ _ _ ⟨_, _, hb, rfl, ?_⟩
  intro b hn
  exact ⟨b, rfl, h b hn⟩
theorem Qz {ty : TypeId} {m b : Nat} {E : List (Plc × ν)} {seen : List Nat} {w : Bool} {K : Bool → List Value → Hp → Prop} (hm : σ m = some (mpo en E, w)) (hb : σ b = some (.mapIter (some m) E.length ⟨seen⟩ E.length, true))
    (h0 : (∀ i, i < E.length → i ∈ seen) → K false [] σ) (h1 : ∀ i (_ : i < E.length), i ∉ seen → ∀ vs, K true vs (σ.ins b (.mapIter (some m) E.length ⟨seen ++ [i]⟩ E.length))) : nxm P (.pointer (some ⟨b, 0, none⟩)) false ty σ K := by
  unfold nxm Instr.next
  refine AH _ _ _ _ ⟨_, _, hb, rfl, ?_⟩
  show swp P (getObj m >>= _) _ σ
  refine AH _ _ _ _ ⟨_, _, hm, rfl, ?_⟩
  have born : ∀ x ∈ mes en 0 E, ∃ i, ∃ h : i < E.length, x = ⟨BK E[i].1, en E[i].2, i⟩ := fun x hx => by
    obtain ⟨i, hi, rfl⟩ := List.mem_iff_getElem.1 hx
    rw [HW] at hi
    exact ⟨i, hi, by rw [JF hi, Nat.zero_add]⟩
  have hg : ((!(⟨seen⟩ : Array Nat).isEmpty && !(⟨mes en 0 E⟩ : Array MapEntry).isEmpty && (⟨mes en 0 E⟩ : Array MapEntry).all fun e => decide (e.born ≥ E.length)) = true) ↔ False := by
    simp only [iff_false, Bool.not_eq_true]
    cases E with
    | nil => simp [mes]
    | cons e es => simp [mes]
  show swp P (if (!(⟨seen⟩ : Array Nat).isEmpty && !(⟨mes en 0 E⟩ : Array MapEntry).isEmpty && (⟨mes en 0 E⟩ : Array MapEntry).all fun e => decide (e.born ≥ E.length)) = true then _ else _) _ σ
  rw [if_neg (fun h => hg.1 h)]
  have hmem : ∀ x ∈ ((⟨mes en 0 E⟩ : Array MapEntry).filter fun e => !(⟨seen⟩ : Array Nat).contains e.born).toList, ∃ i, ∃ h : i < E.length, x = ⟨BK E[i].1, en E[i].2, i⟩ ∧ i ∉ seen := fun x hx => by
    simp only [Array.toList_filter, List.mem_filter, Bool.not_eq_true'] at hx
    obtain ⟨i, hi, rfl⟩ := born x hx.1
    refine ⟨i, hi, rfl, fun hs => ?_⟩
    have h2 := hx.2
    simp [hs] at h2
  have hall : ((⟨mes en 0 E⟩ : Array MapEntry).filter fun e => !(⟨seen⟩ : Array Nat).contains e.born) = #[] → ∀ i, i < E.length → i ∈ seen := fun h i hi => by
    by_cases c : i ∈ seen
    · exact c
    · exfalso
      have hx : (⟨BK E[i].1, en E[i].2, i⟩ : MapEntry) ∈ ((⟨mes en 0 E⟩ : Array MapEntry).filter fun e => !(⟨seen⟩ : Array Nat).contains e.born).toList := by
        simp only [Array.toList_filter, List.mem_filter, Bool.not_eq_true']
        refine ⟨?_, by simpa using c⟩
        have := List.getElem_mem (l := mes en 0 E) (n := i) (by rw [HW]; exact hi)
        rw [JF hi, Nat.zero_add] at this
        exact this
      rw [h] at hx
      cases hx
  dsimp only
  generalize ((⟨mes en 0 E⟩ : Array MapEntry).filter fun e => !(⟨seen⟩ : Array Nat).contains e.born) = L at hmem hall ⊢
  have e1 : L.filter (fun x => decide (x.born < E.length)) = L := Array.filter_eq_self.2 (fun x hx => by
    obtain ⟨i, hi, rfl, _⟩ := hmem x (by simpa using hx)
    simpa using hi)
  have e2 : L.filter (fun x => decide (x.born ≥ E.length)) = #[] := by
    rw [Array.filter_eq_empty_iff]
    intro x hx
    obtain ⟨i, hi, rfl, _⟩ := hmem x (by simpa using hx)
    simp
    omega
  simp only [e1, e2, Array.append_empty]
  by_cases hz : L.size = 0
  · have hL : L = #[] := Array.eq_empty_of_size_eq_zero hz
    subst hL
    have e3 : (if (#[] : Array MapEntry).isEmpty = true then (#[none] : Array (Option MapEntry)) else #[]) ++ Array.map some #[] = #[none] := by simp
    rw [e3]
    refine AH _ _ _ _ ?_
    intro tt
    rw [if_pos (by decide)]
    exact ⟨false, [], rfl, h0 (hall rfl)⟩
  · have hne : L.isEmpty = false := by simp [Array.isEmpty, hz]
    simp only [hne, Bool.false_eq_true, if_false, Array.empty_append, Array.size_map]
    have pick : ∀ j, j < L.size → swp P (match (L.map some)[j]? with
        | some (some e) => do setObj b (.mapIter (some m) E.length (Array.push ⟨seen⟩ e.born) E.length); pure (.tuple #[.bool true, e.key, e.val])
        | some none => pure (.tuple #[.bool false])
        | none => stuck "Next: no such candidate" : Sem Value) (fun v σ' => ∃ t vs, v = .tuple ⟨.bool t :: vs⟩ ∧ K t vs σ') σ := fun j hj => by
      rw [Array.getElem?_map, Array.getElem?_eq_getElem hj]
      obtain ⟨i, hi, hx, hs⟩ := hmem L[j] (by simp)
      rw [hx]
      refine ⟨_, hb, rfl, true, [BK E[i].1, en E[i].2], rfl, ?_⟩
      have := h1 i hi hs [BK E[i].1, en E[i].2]
      simpa using this
    refine AH _ _ _ _ ?_
    intro tt
    split
    · rename_i hf
      exact pick 0 (by omega)
    · exact pick _ (Nat.mod_lt _ (by omega))
theorem QC {m b i : Nat} {E : List (Plc × ν)} {seen : List Nat} {w w' : Bool} {K : Value → Value → Prop} (hm : σ m = some (mpo en E, w)) (hb : σ b = some (.mapIter (some m) E.length ⟨seen ++ [i]⟩ E.length, w')) (hi : i < E.length)
    (h : K (BK E[i].1) (en E[i].2)) : ent P (.pointer (some ⟨b, 0, none⟩)) σ K := by
  unfold ent Instr.entry
  refine O5 hb rfl ?_
  have hback : (⟨seen ++ [i]⟩ : Array Nat).back? = some i := by simp
  simp only [hback]
  refine O5 hm rfl ?_
  show ywp P (if (E.length != E.length) = true then _ else _) _ σ
  rw [if_neg (by simp)]
  have hf : (⟨mes en 0 E⟩ : Array MapEntry).find? (fun e => e.born == i) = some ⟨BK E[i].1, en E[i].2, i⟩ := by
    rw [← Array.find?_toList]
    show (mes en 0 E).find? _ = _
    have key : ∀ {E : List (Plc × ν)} {j k : Nat} (hk : k < E.length), (mes en j E).find? (fun e => e.born == j + k) = some ⟨BK E[k].1, en E[k].2, j + k⟩ := by
      intro E
      induction E with
      | nil => intro j k hk; simp at hk
      | cons e es ih =>
        intro j k hk
        cases k with
        | zero => simp [mes]
        | succ k =>
          have hn : (j == j + (k + 1)) = false := by simp
          simp only [mes, List.find?_cons, hn]
          have := ih (j := j + 1) (k := k) (by simpa using hk)
          have e2 : j + (k + 1) = j + 1 + k := by omega
          rw [e2]
          simpa using this
    have := key (j := 0) hi
    simpa using this
  rw [hf]
  exact ⟨_, _, rfl, h⟩
end
end Go.Proofs.Ytkdjkkimngeloaa
