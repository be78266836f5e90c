/- Trimmed by wip/trim.py to what this claim rests on. -/
import Derived.Test.YtkdjkkimngeloaaXB11
namespace Go.Proofs.Ytkdjkkimngeloaa
open Go.RowKit
theorem Q9 : Try.prog.follows .mixedOrders = true := by kernel_rfl
abbrev Cj : FuncId := 15
def Ar (σ12 : Hp) (a1_A : Option Addr) (a1_n : Nat) (A9 : Option Addr) (l9 : Nat) (c9 : Nat) (A10 : Option Addr) (l10 : Nat) (c10 : Nat) (a2_To : Int) (a2_Gap : Int) (J18 : Option Addr → Nat → Nat → Int → Hp → Prop) : Prop :=
  (∃ ys255 : List (Int × Int × Int × Int × Int × Int), RdS [.int .i64, .int .i64, .int .i64, .int .i64, .int .i64, .int .i64] σ12 a1_A a1_n ys255 ∧ 
    BG (List.length ([] : List (Int × Int × Int × Int × Int × Int)) + List.length ys255) (exl 27 [.int .i64, .int .i64, .int .i64, .int .i64, .int .i64, .int .i64] (([] : List (Int × Int × Int × Int × Int × Int)) ++ ys255) σ12 (fun A256 l256 c256 σ257 => 
    cl Try.prog (.func (.func 39) #[] #[]) #[(.agg #[(.slice A9 l9 c9), (.slice A10 l10 c10)]), (.slice A256 l256 c256), (.int .i64 a2_To), (.int .i64 a2_Gap)] σ257 (fun v258 σ259 => 
    ∃ A260 : Option Addr, ∃ l260 : Nat, ∃ c260 : Nat, ∃ n261 : Int, (v258 = (.tuple #[(.slice A260 l260 c260), (.int .i64 n261)]) ∧ 
    J18 A260 l260 c260 n261 σ259)))))
def As (σ8 : Hp) (a1_A : Option Addr) (a1_n : Nat) (A9 : Option Addr) (l9 : Nat) (c9 : Nat) (A10 : Option Addr) (l10 : Nat) (c10 : Nat) (a2_To : Int) (a2_Gap : Int) (J13 : Option Addr → Nat → Nat → Int → Hp → Prop) : Prop :=
  (∃ ys367 : List (Int × Int × Int × Int × Int × Int), RdS [.int .i64, .int .i64, .int .i64, .int .i64, .int .i64, .int .i64] σ8 a1_A a1_n ys367 ∧ 
    BG (List.length ([] : List (Int × Int × Int × Int × Int × Int)) + List.length ys367) (exl 27 [.int .i64, .int .i64, .int .i64, .int .i64, .int .i64, .int .i64] (([] : List (Int × Int × Int × Int × Int × Int)) ++ ys367) σ8 (fun A368 l368 c368 σ369 => 
    cl Try.prog (.func (.func 41) #[] #[]) #[(.agg #[(.slice A9 l9 c9), (.slice A10 l10 c10)]), (.slice A368 l368 c368), (.int .i64 a2_To), (.int .i64 a2_Gap)] σ369 (fun v370 σ371 => 
    ∃ A372 : Option Addr, ∃ l372 : Nat, ∃ c372 : Nat, ∃ n373 : Int, (v370 = (.tuple #[(.slice A372 l372 c372), (.int .i64 n373)]) ∧ 
    J13 A372 l372 c372 n373 σ371)))))
def AB (σ28 : Hp) (a1_A : Option Addr) (a1_n : Nat) (A19 : Option Addr) (l19 : Nat) (c19 : Nat) (A9 : Option Addr) (l9 : Nat) (c9 : Nat) (A10 : Option Addr) (l10 : Nat) (c10 : Nat) (a2_To : Int) (a2_Gap : Int) (J36 : Int → Int → Hp → Prop) : Prop :=
  (∃ ys102 : List (Int × Int × Int × Int × Int × Int), RdS [.int .i64, .int .i64, .int .i64, .int .i64, .int .i64, .int .i64] σ28 a1_A a1_n ys102 ∧ 
    BG (List.length ([] : List (Int × Int × Int × Int × Int × Int)) + List.length ys102) (cl Try.prog (.func (.func 37) #[] #[]) #[(.slice A19 l19 c19)] σ28 (fun v103 σ104 => 
    ∃ A105 : Option Addr, ∃ l105 : Nat, ∃ c105 : Nat, (v103 = (.slice A105 l105 c105) ∧ (Hp.Sub σ28 σ104 ∧ 
    exl 27 [.int .i64, .int .i64, .int .i64, .int .i64, .int .i64, .int .i64] (([] : List (Int × Int × Int × Int × Int × Int)) ++ ys102) σ104 (fun A106 l106 c106 σ107 => 
    cl Try.prog (.func (.func 36) #[] #[]) #[(.agg #[(.slice A9 l9 c9), (.slice A10 l10 c10)]), (.slice A106 l106 c106), (.int .i64 a2_To), (.int .i64 a2_Gap), (.slice A105 l105 c105)] σ107 (fun v108 σ109 => 
    ∃ n110 : Int, ∃ n111 : Int, (v108 = (.tuple #[(.int .i64 n110), (.int .i64 n111)]) ∧ J36 n110 n111 σ109))))))))
def AK (σ28 : Hp) (a1_A : Option Addr) (a1_n : Nat) (A19 : Option Addr) (l19 : Nat) (c19 : Nat) (A9 : Option Addr) (l9 : Nat) (c9 : Nat) (A10 : Option Addr) (l10 : Nat) (c10 : Nat) (a2_To : Int) (a2_Gap : Int) (J36 : Int → Int → Hp → Prop) : Prop :=
  (∃ ys42 : List (Int × Int × Int × Int × Int × Int), RdS [.int .i64, .int .i64, .int .i64, .int .i64, .int .i64, .int .i64] σ28 a1_A a1_n ys42 ∧ 
    BG (List.length ([] : List (Int × Int × Int × Int × Int × Int)) + List.length ys42) (cl Try.prog (.func (.func 37) #[] #[]) #[(.slice A19 l19 c19)] σ28 (fun v43 σ44 => 
    ∃ A45 : Option Addr, ∃ l45 : Nat, ∃ c45 : Nat, (v43 = (.slice A45 l45 c45) ∧ (Hp.Sub σ28 σ44 ∧ exl 27 [.int .i64, .int .i64, .int .i64, .int .i64, .int .i64, .int .i64] (([] : List (Int × Int × Int × Int × Int × Int)) ++ ys42) σ44 (fun A46 l46 c46 σ47 => 
    cl Try.prog (.func (.func 36) #[] #[]) #[(.agg #[(.slice A9 l9 c9), (.slice A10 l10 c10)]), (.slice A46 l46 c46), (.int .i64 a2_To), (.int .i64 a2_Gap), (.slice A45 l45 c45)] σ47 (fun v48 σ49 => 
    ∃ n50 : Int, ∃ n51 : Int, (v48 = (.tuple #[(.int .i64 n50), (.int .i64 n51)]) ∧ J36 n50 n51 σ49))))))))
def Ck (σ : Hp) (a0_Parking_A : Option Addr) (a0_Parking_n : Nat) (a0_Parking_c : Nat) (a0_Roads_A : Option Addr) (a0_Roads_n : Nat) (a0_Roads_c : Nat) (a1_A : Option Addr) (a1_n : Nat) (a1_c : Nat) (a2_To : Int) (a2_Gap : Int) (R : Value → Hp → Prop) : Prop :=
  cl Try.prog (.func (.func 16) #[] #[]) #[(.agg #[(.slice a0_Parking_A a0_Parking_n a0_Parking_c), (.slice a0_Roads_A a0_Roads_n a0_Roads_c)]), (.slice a1_A a1_n a1_c)] σ (fun v1 σ2 => 
    ∃ t3 : Bool, (v1 = (.bool t3) ∧ bc t3 (cl Try.prog (.func (.func 18) #[] #[]) #[] σ2 (fun v4 σ5 => ∃ t6 : Bool, (v4 = (.bool t6) ∧ 
    rt σ5 R (.bool t6)))) (cl Try.prog (.func (.func 20) #[] #[]) #[(.agg #[(.slice a0_Parking_A a0_Parking_n a0_Parking_c), (.slice a0_Roads_A a0_Roads_n a0_Roads_c)])] σ2 (fun v7 σ8 => 
    ∃ A9 : Option Addr, ∃ l9 : Nat, ∃ c9 : Nat, ∃ A10 : Option Addr, ∃ l10 : Nat, ∃ c10 : Nat, (v7 = (.agg #[(.slice A9 l9 c9), (.slice A10 l10 c10)]) ∧ 
    cut (α := Option Addr → Nat → Nat → Int → Hp → Prop) (fun A14 l14 _ n15 σ12 => ∀ _ : Nat → Value, 
    cut (α := Option Addr → Nat → Nat → Int → Hp → Prop) (fun A19 l19 c19 n20 σ17 => ∀ _ : Nat → Value, 
    bc (!decide (n15 = n20)) (rt σ17 R (.bool false)) (bc (!decide (n15 = 0)) (cl Try.prog (.func (.func 18) #[] #[]) #[] σ17 (fun v21 σ22 => 
    ∃ t23 : Bool, (v21 = (.bool t23) ∧ rt σ22 R (.bool t23)))) (cut (α := Hp → Prop) (fun  σ25 => ∀ _ : Nat → Value, 
    cut (α := Bool → Hp → Prop) (fun t30 σ28 => ∀ _ : Nat → Value, bc (!t30) (cl Try.prog (.func (.func 18) #[] #[]) #[] σ28 (fun v31 σ32 => 
    ∃ t33 : Bool, (v31 = (.bool t33) ∧ rt σ32 R (.bool t33)))) (cut (α := Int → Int → Hp → Prop) (fun n37 n38 σ35 => 
    ∀ _ : Nat → Value, bc (decide (n38 = 0)) (bc (decide (n37 = 0)) (cl Try.prog (.func (.func 18) #[] #[]) #[] σ35 (fun v39 σ40 => 
    ∃ t41 : Bool, (v39 = (.bool t41) ∧ rt σ40 R (.bool t41)))) (rt σ35 R (.bool false))) (rt σ35 R (.bool false))) (fun J36 => 
    (((AK σ28 a1_A a1_n A19 l19 c19 A9 l9 c9 A10 l10 c10 a2_To a2_Gap J36) ∧ 
    ((AK σ28 a1_A a1_n A19 l19 c19 A9 l9 c9 A10 l10 c10 a2_To a2_Gap J36) ∧ 
    (AK σ28 a1_A a1_n A19 l19 c19 A9 l9 c9 A10 l10 c10 a2_To a2_Gap J36)) ∧ 
    ((AK σ28 a1_A a1_n A19 l19 c19 A9 l9 c9 A10 l10 c10 a2_To a2_Gap J36) ∧ 
    (AK σ28 a1_A a1_n A19 l19 c19 A9 l9 c9 A10 l10 c10 a2_To a2_Gap J36))) ∧ 
    (AK σ28 a1_A a1_n A19 l19 c19 A9 l9 c9 A10 l10 c10 a2_To a2_Gap J36) ∧ 
    (((AB σ28 a1_A a1_n A19 l19 c19 A9 l9 c9 A10 l10 c10 a2_To a2_Gap J36) ∧ 
    (AB σ28 a1_A a1_n A19 l19 c19 A9 l9 c9 A10 l10 c10 a2_To a2_Gap J36)) ∧ 
    (AB σ28 a1_A a1_n A19 l19 c19 A9 l9 c9 A10 l10 c10 a2_To a2_Gap J36) ∧ 
    ((AB σ28 a1_A a1_n A19 l19 c19 A9 l9 c9 A10 l10 c10 a2_To a2_Gap J36) ∧ 
    (AB σ28 a1_A a1_n A19 l19 c19 A9 l9 c9 A10 l10 c10 a2_To a2_Gap J36))) ∧ 
    (((AB σ28 a1_A a1_n A19 l19 c19 A9 l9 c9 A10 l10 c10 a2_To a2_Gap J36) ∧ 
    (AB σ28 a1_A a1_n A19 l19 c19 A9 l9 c9 A10 l10 c10 a2_To a2_Gap J36)) ∧ 
    (AB σ28 a1_A a1_n A19 l19 c19 A9 l9 c9 A10 l10 c10 a2_To a2_Gap J36) ∧ 
    ((AB σ28 a1_A a1_n A19 l19 c19 A9 l9 c9 A10 l10 c10 a2_To a2_Gap J36) ∧ 
    (AB σ28 a1_A a1_n A19 l19 c19 A9 l9 c9 A10 l10 c10 a2_To a2_Gap J36))))))) (fun J29 => 
    ∃ I204 : Nat → Bool → Int → Hp → Prop, (∃ n2050, I204 n2050 true 0 σ25) ∧ ∀ n205 : Nat, ∀ t206 : Bool, ∀ n207 : Int, ∀ σ203 : Hp, I204 n205 t206 n207 σ203 → ∀ _ : Nat → Value, bc (decide (n207 < ((a1_n : Nat) : Int))) (cut (α := Bool → Hp → Prop) (fun t211 σ209 => 
    ∀ _ : Nat → Value, wk .i64 (n207 + 1) (fun n212 => bk σ209 n205 (fun m213 σ214 => I204 m213 t211 n212 σ214))) (fun J210 => 
    ix a1_A a1_n n207 6 (fun b215 a216 => ldI σ203 .i64 b215 a216 (fun n217 => ldI σ203 .i64 b215 (a216 + 1) (fun n218 => 
    ldI σ203 .i64 b215 (a216 + 2) (fun n219 => ldI σ203 .i64 b215 (a216 + 3) (fun n220 => ldI σ203 .i64 b215 (a216 + 4) (fun n221 => 
    ldI σ203 .i64 b215 (a216 + 5) (fun n222 => cl Try.prog (.func (.func 30) #[] #[]) #[(.agg #[(.slice A9 l9 c9), (.slice A10 l10 c10)]), (.agg #[(.int .i64 n217), (.int .i64 n218), (.int .i64 n219), (.int .i64 n220), (.int .i64 n221), (.int .i64 n222)])] σ203 (fun v223 σ224 => 
    ∃ A225 : Option Addr, ∃ l225 : Nat, ∃ c225 : Nat, ∃ n226 : Int, (v223 = (.tuple #[(.slice A225 l225 c225), (.int .i64 n226)]) ∧ 
    cut (α := Hp → Prop) (fun  σ228 => ∀ _ : Nat → Value, bc t206 (ix A19 l19 n207 1 (fun b230 a231 => 
    ldS σ228 b230 a231 (fun _ l232 _ => J210 (decide ((0 : Int) < ((l232 : Nat) : Int))) σ228))) (J210 false σ228)) (fun J229 => 
    cut (α := Bool → Hp → Prop) (fun t236 σ234 => ∀ _ : Nat → Value, bc t236 (rt σ234 R (.bool false)) (J229 σ234)) (fun J235 => 
    bc (!decide (n226 = 0)) (J235 true σ224) (bc (decide (a2_To < 0)) (J235 true σ224) (bc (decide (((l225 : Nat) : Int) ≤ a2_To)) (J235 true σ224) (ix A14 l14 n207 1 (fun b237 a238 => 
    ldI σ224 .i64 b237 a238 (fun n239 => ix A225 l225 a2_To 1 (fun b240 a241 => ldI σ224 .i64 b240 a241 (fun n242 => 
    bc (decide (n239 < n242)) (J235 true σ224) (bc (decide ((0 : Int) < n207)) (ix A14 l14 n207 1 (fun b243 a244 => 
    ldI σ224 .i64 b243 a244 (fun n245 => wk .i64 (n207 - 1) (fun n246 => ix A14 l14 n246 1 (fun b247 a248 => 
    ldI σ224 .i64 b247 a248 (fun n249 => wk .i64 (n249 + a2_Gap) (fun n250 => J235 (decide (n245 < n250)) σ224))))))) (J235 false σ224)))))))))))))))))))))) (J29 t206 σ203))) (fun J26 => 
    cut (α := Bool → Hp → Prop) (fun t254 σ252 => ∀ _ : Nat → Value, bc t254 (rt σ252 R (.bool false)) (J26 σ252)) (fun J253 => 
    bc (!decide (((l14 : Nat) : Int) = ((a1_n : Nat) : Int))) (J253 true σ17) (J253 (!decide (((l19 : Nat) : Int) = ((a1_n : Nat) : Int))) σ17)))))) (fun J18 => 
    (((Ar σ12 a1_A a1_n A9 l9 c9 A10 l10 c10 a2_To a2_Gap J18) ∧ ((Ar σ12 a1_A a1_n A9 l9 c9 A10 l10 c10 a2_To a2_Gap J18) ∧ (Ar σ12 a1_A a1_n A9 l9 c9 A10 l10 c10 a2_To a2_Gap J18)) ∧ ((Ar σ12 a1_A a1_n A9 l9 c9 A10 l10 c10 a2_To a2_Gap J18) ∧ (Ar σ12 a1_A a1_n A9 l9 c9 A10 l10 c10 a2_To a2_Gap J18))) ∧ (Ar σ12 a1_A a1_n A9 l9 c9 A10 l10 c10 a2_To a2_Gap J18) ∧ (((Ar σ12 a1_A a1_n A9 l9 c9 A10 l10 c10 a2_To a2_Gap J18) ∧ (Ar σ12 a1_A a1_n A9 l9 c9 A10 l10 c10 a2_To a2_Gap J18)) ∧ (Ar σ12 a1_A a1_n A9 l9 c9 A10 l10 c10 a2_To a2_Gap J18) ∧ ((Ar σ12 a1_A a1_n A9 l9 c9 A10 l10 c10 a2_To a2_Gap J18) ∧ (Ar σ12 a1_A a1_n A9 l9 c9 A10 l10 c10 a2_To a2_Gap J18))) ∧ (((Ar σ12 a1_A a1_n A9 l9 c9 A10 l10 c10 a2_To a2_Gap J18) ∧ (Ar σ12 a1_A a1_n A9 l9 c9 A10 l10 c10 a2_To a2_Gap J18)) ∧ (Ar σ12 a1_A a1_n A9 l9 c9 A10 l10 c10 a2_To a2_Gap J18) ∧ ((Ar σ12 a1_A a1_n A9 l9 c9 A10 l10 c10 a2_To a2_Gap J18) ∧ (Ar σ12 a1_A a1_n A9 l9 c9 A10 l10 c10 a2_To a2_Gap J18)))))) (fun J13 => (((As σ8 a1_A a1_n A9 l9 c9 A10 l10 c10 a2_To a2_Gap J13) ∧ ((As σ8 a1_A a1_n A9 l9 c9 A10 l10 c10 a2_To a2_Gap J13) ∧ (As σ8 a1_A a1_n A9 l9 c9 A10 l10 c10 a2_To a2_Gap J13)) ∧ ((As σ8 a1_A a1_n A9 l9 c9 A10 l10 c10 a2_To a2_Gap J13) ∧ (As σ8 a1_A a1_n A9 l9 c9 A10 l10 c10 a2_To a2_Gap J13))) ∧ (As σ8 a1_A a1_n A9 l9 c9 A10 l10 c10 a2_To a2_Gap J13) ∧ (((As σ8 a1_A a1_n A9 l9 c9 A10 l10 c10 a2_To a2_Gap J13) ∧ (As σ8 a1_A a1_n A9 l9 c9 A10 l10 c10 a2_To a2_Gap J13)) ∧ (As σ8 a1_A a1_n A9 l9 c9 A10 l10 c10 a2_To a2_Gap J13) ∧ ((As σ8 a1_A a1_n A9 l9 c9 A10 l10 c10 a2_To a2_Gap J13) ∧ (As σ8 a1_A a1_n A9 l9 c9 A10 l10 c10 a2_To a2_Gap J13))) ∧ (((As σ8 a1_A a1_n A9 l9 c9 A10 l10 c10 a2_To a2_Gap J13) ∧ (As σ8 a1_A a1_n A9 l9 c9 A10 l10 c10 a2_To a2_Gap J13)) ∧ (As σ8 a1_A a1_n A9 l9 c9 A10 l10 c10 a2_To a2_Gap J13) ∧ ((As σ8 a1_A a1_n A9 l9 c9 A10 l10 c10 a2_To a2_Gap J13) ∧ (As σ8 a1_A a1_n A9 l9 c9 A10 l10 c10 a2_To a2_Gap J13))))))))))
def Aa : OA := ⟨[], false, []⟩
def Au : MPlan := (.alt 8 false Aa (.take 9 Aa (.take 10 Aa (.take 11 Aa (.take 12 Aa (.take 13 Aa .done))))) .done)
def AG : MPlan := (.alt 9 true Aa (.alt 10 false Aa (.take 11 Aa (.take 12 Aa (.take 13 Aa (.take 14 Aa (.take 15 Aa .done))))) .done) .done)
def CO : MAn := (.plan [3, 8] (.take 2 Aa (.take 4 Aa (.take 6 Aa (.new 1 Aa (.alt 0 true Aa (.alt 3 false Aa (.take 5 Aa (.take 7 Aa Au)) (.alt 5 true Aa (.alt 3 false Aa (.take 7 Aa Au) (.alt 7 true Aa (.alt 3 false Aa Au .done) .done)) (.alt 7 true Aa (.alt 3 false Aa (.take 5 Aa Au) (.alt 5 true Aa (.alt 3 false Aa Au .done) .done)) .done))) (.alt 3 false Aa (.take 0 Aa (.take 5 Aa (.take 7 Aa Au))) (.alt 5 true Aa (.alt 0 true Aa (.alt 3 false Aa (.take 7 Aa Au) (.alt 7 true Aa (.alt 3 false Aa Au .done) .done)) (.alt 3 false Aa (.take 0 Aa (.take 7 Aa Au)) (.alt 7 true Aa (.alt 0 true Aa (.alt 3 false Aa Au .done) (.alt 3 false Aa (.take 0 Aa Au) .done)) .done))) (.alt 7 true Aa (.alt 0 true Aa (.alt 3 false Aa (.take 5 Aa Au) (.alt 5 true Aa (.alt 3 false Aa Au .done) .done)) (.alt 3 false Aa (.take 0 Aa (.take 5 Aa Au)) (.alt 5 true Aa (.alt 0 true Aa (.alt 3 false Aa Au .done) (.alt 3 false Aa (.take 0 Aa Au) .done)) .done))) .done)))))))))
def BQ : MPlan := (.alt 3 false Aa AG .done)
def CQ : MPlan := (.alt 3 false Aa (.take 7 Aa AG) (.alt 7 true Aa BQ .done))
def C0 : MPlan := (.alt 3 false Aa (.take 5 Aa AG) (.alt 5 true Aa BQ .done))
def CR : MPlan := (.alt 0 true Aa BQ (.alt 3 false Aa (.take 0 Aa AG) .done))
def FL : MAn := (.seq (.txt []) (.seq (.seq (.txt []) (.cond (.seq (.txt []) .leaf) .leaf)) (.seq (.txt []) (.cut ⟨[true, true, true], 3, [.slot 5 (.hb 1 0), .slot 7 (.hb 2 0), .slot 8 (.sc (.slc)), .slot 9 (.sc (.int .i64))], [(1, true)]⟩ CO (.cut ⟨[true, true, true], 3, [.slot 5 (.hb 1 0), .slot 7 (.hb 2 0), .slot 10 (.sc (.slc)), .slot 11 (.sc (.int .i64))], [(1, true), (8, true), (9, true)]⟩ CO (.seq (.seq (.txt []) (.cond (.seq (.txt []) .leaf) .leaf)) (.seq (.seq (.txt []) (.cond (.seq (.txt []) .leaf) .leaf)) (.cut ⟨[true, true, true], 3, [.slot 5 (.hb 1 0), .slot 7 (.hb 2 0)], [(1, true), (8, true), (10, true)]⟩ (.cut ⟨[true, true, true], 3, [.slot 5 (.hb 1 0), .slot 7 (.hb 2 0), .slot 65 (.sc (.bool))], [(1, true), (8, true), (10, true)]⟩ (.txt [Aa, Aa, Aa, Aa, Aa, ⟨[], true, []⟩]) (.cond (.seq (.txt []) .leaf) .leaf)) (.seq (.txt []) (.cut ⟨[true, true, true], 3, [.slot 5 (.hb 1 0), .slot 7 (.hb 2 0), .slot 12 (.sc (.bool))], [(1, true), (10, true)]⟩ (.seq (.txt []) (.block (.loop ⟨[true, true, true], 3, [.slot 5 (.hb 1 0), .slot 7 (.hb 2 0), .slot 12 (.sc (.bool)), .slot 13 (.sc (.int .i64))], [(1, true), (8, true), (10, true)]⟩ (.seq (.seq (.txt []) (.cond .leaf .leaf)) (.cut ⟨[true, true, true], 3, [.slot 5 (.hb 1 0), .slot 7 (.hb 2 0), .slot 12 (.sc (.bool))], [(1, true), (8, true), (10, true), (13, true)]⟩ (.block (.seq (.plan [5] (.take 0 Aa (.take 1 Aa (.take 2 Aa (.take 3 Aa (.take 4 Aa (.alt 5 false Aa (.take 6 Aa (.take 7 Aa (.take 8 Aa (.take 9 Aa (.take 10 Aa .done))))) .done))))))) (.cut ⟨[true, true, true], 3, [.slot 5 (.hb 1 0), .slot 7 (.hb 2 0)], [(1, true), (8, true), (10, true), (12, true), (13, true)]⟩ (.cut ⟨[true, true, true], 3, [.slot 5 (.hb 1 0), .slot 7 (.hb 2 0), .slot 125 (.sc (.bool))], [(1, true), (8, true), (10, true), (12, true), (13, true)]⟩ (.plan [] (.take 0 Aa (.take 1 Aa (.take 2 ⟨[], true, []⟩ (.take 3 Aa (.take 4 Aa (.take 5 Aa (.take 6 Aa (.take 7 ⟨[], true, []⟩ (.take 8 Aa (.take 9 Aa (.take 10 Aa (.take 11 Aa (.take 12 Aa (.take 13 Aa (.take 14 ⟨[], true, []⟩ (.take 15 Aa (.take 16 Aa (.take 17 Aa (.take 18 Aa (.take 19 Aa (.take 20 Aa (.take 21 Aa (.take 22 Aa (.take 23 Aa (.take 24 Aa (.take 25 Aa (.take 26 ⟨[], true, []⟩ (.take 27 Aa (.take 28 Aa (.take 29 ⟨[], true, []⟩ (.take 30 Aa (.take 31 Aa (.take 32 Aa (.take 33 Aa (.take 34 Aa (.take 35 Aa (.take 36 Aa (.take 37 Aa (.take 38 Aa (.take 39 Aa (.take 40 Aa (.take 41 Aa (.take 42 Aa (.take 43 Aa (.take 44 Aa .done)))))))))))))))))))))))))))))))))))))))))))))) (.cond (.seq (.txt []) .leaf) .leaf)) (.txt [Aa, ⟨[], true, []⟩])))) (.txt [])))))) (.seq (.seq (.txt []) (.cond (.seq (.txt []) .leaf) .leaf)) (.cut ⟨[true, true, true], 3, [.slot 16 (.sc (.int .i64)), .slot 17 (.sc (.int .i64))], []⟩ (.plan [3, 10] (.take 2 Aa (.take 4 Aa (.take 6 Aa (.take 8 Aa (.new 1 Aa (.alt 0 true Aa (.alt 3 false Aa (.take 5 Aa (.take 7 Aa AG)) (.alt 5 true Aa CQ (.alt 7 true Aa C0 .done))) (.alt 3 false Aa (.take 0 Aa (.take 5 Aa (.take 7 Aa AG))) (.alt 5 true Aa (.alt 0 true Aa CQ (.alt 3 false Aa (.take 0 Aa (.take 7 Aa AG)) (.alt 7 true Aa CR .done))) (.alt 7 true Aa (.alt 0 true Aa C0 (.alt 3 false Aa (.take 0 Aa (.take 5 Aa AG)) (.alt 5 true Aa CR .done))) .done)))))))))) (.seq (.txt [Aa, Aa, ⟨[], true, []⟩, Aa, Aa, Aa, ⟨[], true, []⟩]) .leaf)))))))))))))
set_option maxRecDepth 100000 in
theorem Fj (σ : Hp) (a0_Parking_A : Option Addr) (a0_Parking_n : Nat) (a0_Parking_c : Nat) (a0_Roads_A : Option Addr) (a0_Roads_n : Nat) (a0_Roads_c : Nat) (a1_A : Option Addr) (a1_n : Nat) (a1_c : Nat) (a2_To : Int) (a2_Gap : Int) (R : Value → Hp → Prop) (h : Ck σ a0_Parking_A a0_Parking_n a0_Parking_c a0_Roads_A a0_Roads_n a0_Roads_c a1_A a1_n a1_c a2_To a2_Gap R) : Af Try.prog 15 #[(.agg #[(.slice a0_Parking_A a0_Parking_n a0_Parking_c), (.slice a0_Roads_A a0_Roads_n a0_Roads_c)]), (.slice a1_A a1_n a1_c), (.agg #[(.int .i64 a2_To), (.int .i64 a2_Gap)])] σ R :=
  Am Q9 FL Try.func15 rfl (by kernel_rfl) (by kernel_rfl) (M := Ck σ a0_Parking_A a0_Parking_n a0_Parking_c a0_Roads_A a0_Roads_n a0_Roads_c a1_A a1_n a1_c a2_To a2_Gap R) (by kernel_rfl) h
end Go.Proofs.Ytkdjkkimngeloaa
