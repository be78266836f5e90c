/- What this claim rests on. -/
import Derived.Test.YtoelhdjloaknbaaGreatYB11
namespace Go.Proofs.YtoelhdjloaknbaaGreat
set_option maxRecDepth 100000
open Go.RowKit Go.Proofs.Tryz
def aQ (x:MAn):MAn:=.seq (.txt []) x
def tkYR4:Nat->Nat->OA->MPlan->MPlan
 |0,_,_,x=>x
 |n+1,i,a,x=>.take i a (tkYR4 n (i+1) a x)
theorem HN:prog.follows .mixedOrders=true:=by kernel_rfl
def L4 (σ:Hp) (n low high:Int) (R:aB):Prop:=
 bc (decide (low<=n)) (rt σ R (.bool (decide (n<=high)))) (rt σ R (.bool false))
def UT:MAn:=(aQ (.seq (.txt [⟨[],false,[]⟩,⟨[],false,[]⟩,⟨[],false,[]⟩,⟨[],true,[]⟩]) .leaf))
theorem UU (σ:Hp) (n low high:Int) (R:aB) (h:L4 σ n low high R):Ag prog 40 #[aD n,aD low,aD high] σ R:=
 Af HN UT Tryz.func40 rfl (h:=h)
def JB (σ:Hp) (k0:aA) (a0 j0:Nat) (v0:Int) (p0:aA) (q0 a1:Nat) (m0:aA) (l0 z0:Nat) (i0:aA) (g0 s0:Nat) (d1:aA) (f1 g1:Nat) (b2:Int) (c0:aA) (b0 d0:Nat) (f0:aA) (e0 h0:Nat) (o0 t0 n0:Int) (o1:aA) (l1 _:Nat) (u1:aA) (t1 _:Nat) (R:aB):Prop:=
 aC 77 #[(.agg #[aN k0 a0 j0,aD v0]),aN none 0 0] σ (aJ fun n3 σ2=>(bc (!decide (n3=0)) (rt σ2 R (aD n3)) (aC 78 #[(.agg #[aN p0 q0 a1,aN m0 l0 z0,aN i0 g0 s0]),aN d1 f1 g1] σ2 (fun v4 s5=>
  ∃ n6 n7:Int,(v4=(.tuple #[aD n6,aD n7])/\bc (!decide (n7=0)) (rt s5 R (aD n7)) (aC 79 #[(.agg #[aN c0 b0 d0,aN f0 e0 h0,aD o0,aD t0,aD n0])] s5 (aJ fun n10 s9=>(bc (!decide (n10=0)) (rt s9 R (aD n10)) (aF (fun s12=>aF (fun s15=>rt s15 R (aD 0)) (fun J16=>
  ∃ I19:Nat->Int->Hp->Prop,(∃ n200,I19 n200 0 s12)/\∀ n20 n21 s18,I19 n20 n21 s18->∀ _:Nat->Value,bc (decide (n21<(a0:Int))) (aF (fun s23=>wk .i64 (n21+1) (fun n25=>bk s23 n20 (fun m26 s27=>I19 m26 n25 s27))) (fun J24=>
  aG (fun t31 s29=>bc t31 (rt s29 R (aD 120)) (J24 s29)) (fun J30=>
  ix o1 l1 n21 1 (fun b32 a33=>ldI s18 .i64 b32 a33 (fun n34=>aC 40 #[aD n34,aD 0,aD 200] s18 (aI fun t37 s36=>(bc (!t37) (J30 true s36) (ix u1 t1 n21 1 (fun b38 a39=>
  ldI s36 .i64 b38 a39 (fun n40=>aC 40 #[aD n40,aD 0,aD 100] s36 (aI fun t43 s42=>(J30 (!t43) s42)))))))))))) (J16 s18))) (fun J13=>aG (fun t47 s45=>bc t47 (rt s45 R (aD 120)) (J13 s45)) (fun J46=>bc (!decide ((g0:Int)=(a0:Int))) (J46 true s9) (bc (!decide ((e0:Int)=(a0:Int))) (J46 true s9) (bc (!decide ((l1:Int)=(a0:Int))) (J46 true s9) (bc (!decide ((t1:Int)=(a0:Int))) (J46 true s9) (aC 40 #[aD b2,aD 0,aD 10000] s9 (aI fun t50 s49=>(J46 (!t50) s49)))))))))))))))))
def AE:OA:=⟨[],false,[]⟩
def Tn:MAn:=(aQ (aQ (.seq (aQ (.cond (aQ .leaf) .leaf)) (aQ (.seq (aQ (.cond (aQ .leaf) .leaf)) (aQ (.seq (aQ (.cond (aQ .leaf) .leaf)) (aQ (.cut ⟨[true],1,[.slot 1 (.hb 0 0)],[(4,true)]⟩ (.cut ⟨[true],1,[.slot 1 (.hb 0 0),.slot 66 (.sc (.bool))],[(4,true)]⟩ (.txt [AE,AE,AE,AE,AE,AE,⟨[],true,[]⟩,AE,AE,AE,AE,AE,AE,AE,⟨[],true,[]⟩,AE,AE,AE,AE,AE,AE,⟨[],true,[]⟩,AE,AE,AE,AE,AE,AE,⟨[],true,[]⟩]) (.cond (aQ .leaf) .leaf)) (.cut ⟨[true],1,[],[]⟩ (aQ (.block (.loop ⟨[true],1,[.slot 1 (.hb 0 0),.slot 5 (.sc (.int .i64))],[(4,true)]⟩ (.seq (aQ (.cond .leaf .leaf)) (.cut ⟨[true],1,[.slot 1 (.hb 0 0)],[(4,true),(5,true)]⟩ (.block (.cut ⟨[true],1,[.slot 1 (.hb 0 0),.slot 87 (.sc (.bool))],[(4,true),(5,true)]⟩ (.txt [AE,AE,AE,AE,AE,AE,AE,⟨[],true,[]⟩]) (.cond (aQ .leaf) .leaf))) (.txt [])))))) (aQ .leaf)))))))))))
theorem TH (σ:Hp) (k0:aA) (a0 j0:Nat) (v0:Int) (p0:aA) (q0 a1:Nat) (m0:aA) (l0 z0:Nat) (i0:aA) (g0 s0:Nat) (d1:aA) (f1 g1:Nat) (b2:Int) (c0:aA) (b0 d0:Nat) (f0:aA) (e0 h0:Nat) (o0 t0 n0:Int) (o1:aA) (l1 s1:Nat) (u1:aA) (t1 w1:Nat) (R:aB) (h:JB σ k0 a0 j0 v0 p0 q0 a1 m0 l0 z0 i0 g0 s0 d1 f1 g1 b2 c0 b0 d0 f0 e0 h0 o0 t0 n0 o1 l1 s1 u1 t1 w1 R):Ag prog 39 #[(.agg #[aN k0 a0 j0,aD v0,aN p0 q0 a1,aN m0 l0 z0,aN i0 g0 s0,aN d1 f1 g1,aD b2,aN c0 b0 d0,aN f0 e0 h0,aD o0,aD t0,aD n0,aN o1 l1 s1,aN u1 t1 w1])] σ R:=
 Af HN Tn Tryz.func39 rfl (h:=h)
def L1 (σ:Hp) (_:aA) (a0 _:Nat) (_:Int) (p0:aA) (q0 a1:Nat) (m0:aA) (l0 z0:Nat) (i0:aA) (g0 s0:Nat) (d1:aA) (f1 g1:Nat) (b2:Int) (c0:aA) (b0 d0:Nat) (f0:aA) (e0 h0:Nat) (o0 t0 n0:Int) (_:aA) (_ _:Nat) (_:aA) (_ _:Nat) (R:aB):Prop:=
 (0<=(a0:Int)/\(a0:Int)<=(a0:Int) /\
  (a0:Int)<=(1000000000:Int)/\aC 80 #[(.agg #[aN p0 q0 a1,aN m0 l0 z0,aN i0 g0 s0]),aN d1 f1 g1,aD b2] σ (fun v1 σ2=>
  ∃ A3:aA,∃ l3 c3:Nat,∃ n4:Int,(v1=(.tuple #[aN A3 l3 c3,aD n4]) /\
  cut (α:=List Bool->Hp->Prop) (fun xs8 s6=>∀ _:Nat->Value,exl 4 [.bool] xs8 s6 (fun A9 l9 c9 s10=>
  rt s10 R (aN A9 l9 c9))) (fun J7=>∃ I13:Nat->Int->Int->List Bool->Hp->Prop,(∃ n140,I13 n140 0 0 (List.replicate ((a0:Int):Int).toNat false:List Bool) σ2) /\
  ∀ n14 n15 n16 xs17 s12,I13 n14 n15 n16 xs17 s12->∀ _:Nat->Value,bc (decide (n16<(l3:Int))) (cut (α:=Int->List Bool->Hp->Prop) (fun n21 xs22 s19=>
  ∀ _:Nat->Value,wk .i64 (n16+1) (fun n23=>bk s19 n14 (fun m24 s25=>I13 m24 n21 n23 xs22 s25))) (fun J20=>
  ix A3 l3 n16 1 (fun b26 a27=>ldI s12 .i64 b26 a27 (fun n28=>wk .u64 (n28) (fun n29=>(0<=n29 /\
  wk .i64 (1*2^(min (n29:Int).toNat (IntKind.bits .i64))) (fun n30=>wk .i64 (((BitVec.ofInt (IntKind.bits .i64) n15 ||| BitVec.ofInt (IntKind.bits .i64) n30).toNat:Int)) (fun n31=>
  aC 81 #[(.agg #[aN c0 b0 d0,aN f0 e0 h0,aD o0,aD t0,aD n0]),aD n31] s12 (fun v32 s33=>
  ∃ n34:Int,∃ t35:Bool,∃ n36:Int,(v32=(.tuple #[aD n34,.bool t35,aD n36]) /\
  bc t35 (wk .u64 (n28) (fun n37=>(0<=n37/\wk .i64 (1*2^(min (n37:Int).toNat (IntKind.bits .i64))) (fun n38=>
  wk .i64 (((BitVec.ofInt (IntKind.bits .i64) n15 ||| BitVec.ofInt (IntKind.bits .i64) n38).toNat:Int)) (fun n39=>
  (0<=n28/\n28<((List.length xs17:Nat):Int)/\lat xs17 ((n28:Int).toNat) (fun _=>J20 n39 (List.set xs17 ((n28:Int).toNat) true) s33))))))) (J20 n15 xs17 s33))))))))))) (J7 xs17 s12)))))
def Vt:MAn:=(aQ (aQ (aQ (aQ (.cut ⟨[true,false],2,[.slot 3 (.hl 1 0),.modl 1 0 4 [.bool]],[]⟩ (aQ (.block (.loop ⟨[true,false],2,[.slot 1 (.hb 0 0),.slot 3 (.hl 1 0),.slot 6 (.sc (.int .i64)),.slot 7 (.sc (.int .i64)),.modl 1 0 4 [.bool]],[(4,true)]⟩ (.seq (aQ (.cond .leaf .leaf)) (.cut ⟨[true,false],2,[.slot 1 (.hb 0 0),.slot 3 (.hl 1 0),.slot 6 (.sc (.int .i64)),.modl 1 0 4 [.bool]],[(4,true),(7,true)]⟩ (.block (aQ (aQ (aQ (.cond (aQ (.txt [])) .leaf))))) (.txt [])))))) (aQ .leaf))))))
theorem UY (σ:Hp) (k0:aA) (a0 j0:Nat) (v0:Int) (p0:aA) (q0 a1:Nat) (m0:aA) (l0 z0:Nat) (i0:aA) (g0 s0:Nat) (d1:aA) (f1 g1:Nat) (b2:Int) (c0:aA) (b0 d0:Nat) (f0:aA) (e0 h0:Nat) (o0 t0 n0:Int) (o1:aA) (l1 s1:Nat) (u1:aA) (t1 w1:Nat) (R:aB) (h:L1 σ k0 a0 j0 v0 p0 q0 a1 m0 l0 z0 i0 g0 s0 d1 f1 g1 b2 c0 b0 d0 f0 e0 h0 o0 t0 n0 o1 l1 s1 u1 t1 w1 R):Ag prog 41 #[(.agg #[aN k0 a0 j0,aD v0,aN p0 q0 a1,aN m0 l0 z0,aN i0 g0 s0,aN d1 f1 g1,aD b2,aN c0 b0 d0,aN f0 e0 h0,aD o0,aD t0,aD n0,aN o1 l1 s1,aN u1 t1 w1])] σ R:=
 Af HN Vt Tryz.func41 rfl (h:=h)
def D0 (σ:Hp) (k0:aA) (a0 j0:Nat) (v0:Int) (p0:aA) (q0 a1:Nat) (m0:aA) (l0 z0:Nat) (i0:aA) (g0 s0:Nat) (d1:aA) (f1 g1:Nat) (b2:Int) (c0:aA) (b0 d0:Nat) (f0:aA) (e0 h0:Nat) (o0 t0 n0:Int) (o1:aA) (l1 s1:Nat) (u1:aA) (t1 w1:Nat) (l_A:aA) (l_n l_c:Nat) (R:aB):Prop:=
 aC 39 #[(.agg #[aN k0 a0 j0,aD v0,aN p0 q0 a1,aN m0 l0 z0,aN i0 g0 s0,aN d1 f1 g1,aD b2,aN c0 b0 d0,aN f0 e0 h0,aD o0,aD t0,aD n0,aN o1 l1 s1,aN u1 t1 w1])] σ (aJ fun n3 σ2=>(bc (!decide (n3=0)) (rt σ2 R (aD n3)) (aC 77 #[(.agg #[aN k0 a0 j0,aD v0]),aN l_A l_n l_c] σ2 (aJ fun n6 s5=>(rt s5 R (aD n6))))))
def KY:MAn:=(aQ (aQ (.seq (aQ (.cond (aQ .leaf) .leaf)) (aQ .leaf))))
theorem Lp (σ:Hp) (k0:aA) (a0 j0:Nat) (v0:Int) (p0:aA) (q0 a1:Nat) (m0:aA) (l0 z0:Nat) (i0:aA) (g0 s0:Nat) (d1:aA) (f1 g1:Nat) (b2:Int) (c0:aA) (b0 d0:Nat) (f0:aA) (e0 h0:Nat) (o0 t0 n0:Int) (o1:aA) (l1 s1:Nat) (u1:aA) (t1 w1:Nat) (l_A:aA) (l_n l_c:Nat) (R:aB) (h:D0 σ k0 a0 j0 v0 p0 q0 a1 m0 l0 z0 i0 g0 s0 d1 f1 g1 b2 c0 b0 d0 f0 e0 h0 o0 t0 n0 o1 l1 s1 u1 t1 w1 l_A l_n l_c R):Ag prog 52 #[(.agg #[aN k0 a0 j0,aD v0,aN p0 q0 a1,aN m0 l0 z0,aN i0 g0 s0,aN d1 f1 g1,aD b2,aN c0 b0 d0,aN f0 e0 h0,aD o0,aD t0,aD n0,aN o1 l1 s1,aN u1 t1 w1]),aN l_A l_n l_c] σ R:=
 Af HN KY Tryz.func52 rfl (h:=h)
def LS (σ:Hp) (k0:aA) (a0 j0:Nat) (v0:Int) (p0:aA) (q0 a1:Nat) (m0:aA) (l0 z0:Nat) (i0:aA) (g0 s0:Nat) (d1:aA) (f1 g1:Nat) (b2:Int) (c0:aA) (b0 d0:Nat) (f0:aA) (e0 h0:Nat) (o0 t0 n0:Int) (o1:aA) (l1 s1:Nat) (u1:aA) (t1 w1:Nat) (l_A:aA) (l_n l_c:Nat) (R:aB):Prop:=
 aC 41 #[(.agg #[aN k0 a0 j0,aD v0,aN p0 q0 a1,aN m0 l0 z0,aN i0 g0 s0,aN d1 f1 g1,aD b2,aN c0 b0 d0,aN f0 e0 h0,aD o0,aD t0,aD n0,aN o1 l1 s1,aN u1 t1 w1])] σ (aK fun A3 l3 _ σ2=>(aC 51 #[aN l_A l_n l_c] σ2 (aK fun A6 l6 c6 s5=>(cut (α:=List ((aA×Nat×Nat))->Hp->Prop) (fun xs10 s8=>
  ∀ _:Nat->Value,exl 26 [.slc] xs10 s8 (fun A11 l11 c11 s12=>rt s12 R (.tuple #[aN A6 l6 c6,aN A11 l11 c11]))) (fun J9=>
  ∃ I15:Nat->List ((aA×Nat×Nat))->Int->Hp->Prop,(∃ n160,adp 26 [.slc] none 0 0 s5 (fun (xs17:List ((aA×Nat×Nat))) s18=>
  I15 n160 xs17 0 s18))/\∀ n16 xs19 n20 s14,I15 n16 xs19 n20 s14->∀ _:Nat->Value,bc (decide (n20<(l6:Int))) (cut (α:=List ((aA×Nat×Nat))->Hp->Prop) (fun xs24 s22=>
  ∀ _:Nat->Value,wk .i64 (n20+1) (fun n25=>bk s22 n16 (fun m26 s27=>I15 m26 xs24 n25 s27))) (fun J23=>
  cut (α:=aA->Nat->Nat->aA->Nat->Nat->Hp->Prop) (fun A31 l31 c31 A32 l32 c32 s29=>
  ∀ _:Nat->Value,ix A6 l6 n20 5 (fun b33 a34=>st s29 b33 (a34+3) (aN A31 l31 c31) (fun s35=>
  Bh (List.length xs19+List.length ([(A32,l32,c32)]:List ((aA×Nat×Nat)))) (J23 (xs19++([(A32,l32,c32)]:List ((aA×Nat×Nat)))) s35)))) (fun J30=>
  ∃ I38:Nat->aA->Nat->Nat->aA->Nat->Nat->Int->Hp->Prop,(∃ n390,I38 n390 none 0 0 none 0 0 0 s14) /\
  ∀ n39 A40 l40 c40 A41 l41 c41 n42 s37,I38 n39 A40 l40 c40 A41 l41 c41 n42 s37->∀ _:Nat->Value,ix l_A l_n n20 5 (fun b43 a44=>
  ldS s37 b43 (a44+3) (fun _ l45 _=>bc (decide (n42<(l45:Int))) (cut (α:=aA->Nat->Nat->aA->Nat->Nat->Hp->Prop) (fun A49 l49 c49 A50 l50 c50 s47=>
  ∀ _:Nat->Value,wk .i64 (n42+1) (fun n51=>bk s47 n39 (fun m52 s53=>I38 m52 A49 l49 c49 A50 l50 c50 n51 s53))) (fun J48=>
  ix l_A l_n n20 5 (fun b54 a55=>ldS s37 b54 (a55+3) (fun A56 l56 _=>ix A56 l56 n42 1 (fun b57 a58=>
  ldI s37 .i64 b57 a58 (fun n59=>ix A3 l3 n59 1 (fun b60 a61=>ldB s37 b60 a61 (fun t62=>bc t62 (ix l_A l_n n20 5 (fun b63 a64=>
  ldS s37 b63 (a64+3) (fun A65 l65 _=>ix A65 l65 n42 1 (fun b66 a67=>ldI s37 .i64 b66 a67 (fun n68=>
  adp 3 aM A40 l40 c40 s37 (fun (xs69:List Int) s70=>Bh (List.length xs69+List.length ([n68]:List Int)) (adp 3 aM A41 l41 c41 s70 (fun (xs71:List Int) s72=>
  Bh (List.length xs71+List.length ([n42]:List Int)) (exl 3 aM (xs69++([n68]:List Int)) s72 (fun A73 l73 c73 s74=>
  exl 3 aM (xs71++([n42]:List Int)) s74 (fun A75 l75 c75 s76=>J48 A73 l73 c73 A75 l75 c75 s76))))))))))) (J48 A40 l40 c40 A41 l41 c41 s37))))))))) (J30 A40 l40 c40 A41 l41 c41 s37)))))) (J9 xs19 s14))))))
def UO:MAn:=(aQ (aQ (aQ (aQ (.cut ⟨[true],2,[.slot 8 (.lst 1 26 [.slc])],[(7,true)]⟩ (aQ (.block (.loop ⟨[true],2,[.slot 8 (.lst 1 26 [.slc]),.slot 9 (.sc (.int .i64))],[(1,true),(6,true),(7,true)]⟩ (.seq (aQ (.cond .leaf .leaf)) (.cut ⟨[true,false],2,[.slot 8 (.lst 1 26 [.slc])],[(1,true),(6,true),(7,true),(9,true)]⟩ (.block (aQ (.cut ⟨[true,true],2,[.slot 8 (.hl 1 0),.slot 10 (.sc (.slc)),.slot 11 (.sc (.slc))],[(1,true),(6,true),(7,true),(9,true)]⟩ (aQ (.block (.loop ⟨[true,true],2,[.slot 8 (.hl 1 0),.slot 10 (.sc (.slc)),.slot 11 (.sc (.slc)),.slot 12 (.sc (.int .i64))],[(1,true),(6,true),(7,true),(9,true)]⟩ (.seq (aQ (.cond .leaf .leaf)) (.cut ⟨[true,true],2,[.slot 8 (.hl 1 0),.slot 10 (.sc (.slc)),.slot 11 (.sc (.slc))],[(1,true),(6,true),(7,true),(9,true),(12,true)]⟩ (.block (aQ (.cond (aQ (.txt [])) .leaf))) (.txt [])))))) (aQ (.txt []))))) (.txt [])))))) (aQ .leaf))))))
theorem Vn (σ:Hp) (k0:aA) (a0 j0:Nat) (v0:Int) (p0:aA) (q0 a1:Nat) (m0:aA) (l0 z0:Nat) (i0:aA) (g0 s0:Nat) (d1:aA) (f1 g1:Nat) (b2:Int) (c0:aA) (b0 d0:Nat) (f0:aA) (e0 h0:Nat) (o0 t0 n0:Int) (o1:aA) (l1 s1:Nat) (u1:aA) (t1 w1:Nat) (l_A:aA) (l_n l_c:Nat) (R:aB) (h:LS σ k0 a0 j0 v0 p0 q0 a1 m0 l0 z0 i0 g0 s0 d1 f1 g1 b2 c0 b0 d0 f0 e0 h0 o0 t0 n0 o1 l1 s1 u1 t1 w1 l_A l_n l_c R):Ag prog 57 #[(.agg #[aN k0 a0 j0,aD v0,aN p0 q0 a1,aN m0 l0 z0,aN i0 g0 s0,aN d1 f1 g1,aD b2,aN c0 b0 d0,aN f0 e0 h0,aD o0,aD t0,aD n0,aN o1 l1 s1,aN u1 t1 w1]),aN l_A l_n l_c] σ R:=
 Af HN UO Tryz.func57 rfl (h:=h)
def JP (σ:Hp) (k0:aA) (a0 j0:Nat) (v0:Int) (p0:aA) (q0 a1:Nat) (m0:aA) (l0 z0:Nat) (i0:aA) (g0 s0:Nat) (d1:aA) (f1 g1:Nat) (b2:Int) (c0:aA) (b0 d0:Nat) (f0:aA) (e0 h0:Nat) (o0 t0 n0:Int) (o1:aA) (l1 s1:Nat) (u1:aA) (t1 w1:Nat) (l_A:aA) (l_n l_c:Nat) (cents:Int) (h2:aA) (f2 g2:Nat) (R:aB):Prop:=
 aC 52 #[(.agg #[aN k0 a0 j0,aD v0,aN p0 q0 a1,aN m0 l0 z0,aN i0 g0 s0,aN d1 f1 g1,aD b2,aN c0 b0 d0,aN f0 e0 h0,aD o0,aD t0,aD n0,aN o1 l1 s1,aN u1 t1 w1]),aN l_A l_n l_c] σ (aJ fun n3 σ2=>(bc (!decide (n3=0)) (rt σ2 R (.tuple #[aN none 0 0,aD n3])) (aC 40 #[aD cents,aD 0,aD 1000] σ2 (aI fun t6 s5=>(bc (!t6) (rt s5 R (.tuple #[aN none 0 0,aD 1])) (aC 57 #[(.agg #[aN k0 a0 j0,aD v0,aN p0 q0 a1,aN m0 l0 z0,aN i0 g0 s0,aN d1 f1 g1,aD b2,aN c0 b0 d0,aN f0 e0 h0,aD o0,aD t0,aD n0,aN o1 l1 s1,aN u1 t1 w1]),aN l_A l_n l_c] s5 (fun v7 s8=>
  ∃ A9:aA,∃ l9 c9:Nat,∃ A10:aA,∃ l10 c10:Nat,(v7=(.tuple #[aN A9 l9 c9,aN A10 l10 c10]) /\
  aC 58 #[(.agg #[aN k0 a0 j0,aD v0]),aN A9 l9 c9] s8 (fun v11 s12=>
  ∃ A13:aA,∃ l13 c13:Nat,∃ n14:Int,(v11=(.tuple #[aN A13 l13 c13,aD n14]) /\
  aC 60 #[aN A13 l13 c13] s12 (fun v15 s16=>∃ n17:Int,(v15=(aD n17) /\
  wk .i64 (n17*cents) (fun n18=>aC 59 #[aD n18,aN h2 f2 g2] s16 (fun v19 s20=>
  ∃ A21:aA,∃ l21 c21:Nat,∃ n22:Int,(v19=(.tuple #[aN A21 l21 c21,aD n22]) /\
  rt s20 R (.tuple #[aN A21 l21 c21,aD n22]))))))))))))))))
def Tu:MAn:=(aQ (aQ (.seq (aQ (.cond (aQ .leaf) .leaf)) (.seq (aQ (.cond (aQ .leaf) .leaf)) (aQ (aQ (aQ .leaf)))))))
theorem TW (σ:Hp) (k0:aA) (a0 j0:Nat) (v0:Int) (p0:aA) (q0 a1:Nat) (m0:aA) (l0 z0:Nat) (i0:aA) (g0 s0:Nat) (d1:aA) (f1 g1:Nat) (b2:Int) (c0:aA) (b0 d0:Nat) (f0:aA) (e0 h0:Nat) (o0 t0 n0:Int) (o1:aA) (l1 s1:Nat) (u1:aA) (t1 w1:Nat) (l_A:aA) (l_n l_c:Nat) (cents:Int) (h2:aA) (f2 g2:Nat) (R:aB) (h:JP σ k0 a0 j0 v0 p0 q0 a1 m0 l0 z0 i0 g0 s0 d1 f1 g1 b2 c0 b0 d0 f0 e0 h0 o0 t0 n0 o1 l1 s1 u1 t1 w1 l_A l_n l_c cents h2 f2 g2 R):Ag prog 25 #[(.agg #[aN k0 a0 j0,aD v0,aN p0 q0 a1,aN m0 l0 z0,aN i0 g0 s0,aN d1 f1 g1,aD b2,aN c0 b0 d0,aN f0 e0 h0,aD o0,aD t0,aD n0,aN o1 l1 s1,aN u1 t1 w1]),aN l_A l_n l_c,aD cents,aN h2 f2 g2] σ R:=
 Af HN Tu Tryz.func25 rfl (h:=h)
def Ly (σ:Hp) (k0:aA) (a0 j0:Nat) (v0:Int) (p0:aA) (q0 _:Nat) (m0:aA) (l0 _:Nat) (i0:aA) (g0 _:Nat) (d1:aA) (f1 g1:Nat) (b2:Int) (c0:aA) (b0 d0:Nat) (f0:aA) (e0 h0:Nat) (o0 t0 n0:Int) (o1:aA) (l1 s1:Nat) (u1:aA) (t1 w1:Nat) (R:aB):Prop:=
 aC 38 #[(.agg #[aN k0 a0 j0,aD v0])] σ (fun v1 σ2=>
  ∃ A3:aA,∃ l3 c3:Nat,∃ n4:Int,(v1=(.agg #[aN A3 l3 c3,aD n4]) /\
  cut (α:=aA->Nat->Nat->Int->aA->Nat->Nat->aA->Nat->Nat->aA->Nat->Nat->aA->Nat->Nat->Int->aA->Nat->Nat->aA->Nat->Nat->Int->Int->Int->aA->Nat->Nat->aA->Nat->Nat->Hp->Prop) (fun A8 l8 c8 n9 A10 l10 c10 A11 l11 c11 A12 l12 c12 _ _ _ n14 _ _ _ _ _ _ n17 n18 n19 _ _ _ _ _ _ s6=>
  ∀ _:Nat->Value,∃ ys22:List (Int×Int×Int×Int×Int),RdS [.int .i64,.int .i64,.int .i64,.int .i64,.int .i64] s6 d1 f1 ys22 /\
  Bh (List.length ([]:List (Int×Int×Int×Int×Int))+List.length ys22) (∃ ys23:List (Int×Int×Int×Int),RdS [.int .i64,.int .i64,.int .i64,.int .i64] s6 c0 b0 ys23 /\
  Bh (List.length ([]:List (Int×Int×Int×Int))+List.length ys23) (∃ ys24:List (Int×Int×Int×Int),RdS [.int .i64,.int .i64,.int .i64,.int .i64] s6 f0 e0 ys24 /\
  Bh (List.length ([]:List (Int×Int×Int×Int))+List.length ys24) (∃ ys25:List Int,RdS aM s6 o1 l1 ys25 /\
  Bh (List.length ([]:List Int)+List.length ys25) (∃ ys26:List Int,RdS aM s6 u1 t1 ys26 /\
  Bh (List.length ([]:List Int)+List.length ys26) (exl 136 [.int .i64,.int .i64,.int .i64,.int .i64,.int .i64] (([]:List (Int×Int×Int×Int×Int))++ys22) s6 (fun A27 l27 c27 s28=>
  exl 138 [.int .i64,.int .i64,.int .i64,.int .i64] (([]:List (Int×Int×Int×Int))++ys23) s28 (fun A29 l29 c29 s30=>
  exl 140 [.int .i64,.int .i64,.int .i64,.int .i64] (([]:List (Int×Int×Int×Int))++ys24) s30 (fun A31 l31 c31 s32=>
  exl 3 aM (([]:List Int)++ys25) s32 (fun A33 l33 c33 s34=>exl 3 aM (([]:List Int)++ys26) s34 (fun A35 l35 c35 s36=>
  rt s36 R (.agg #[aN A8 l8 c8,aD n9,aN A10 l10 c10,aN A11 l11 c11,aN A12 l12 c12,aN A27 l27 c27,aD n14,aN A29 l29 c29,aN A31 l31 c31,aD n17,aD n18,aD n19,aN A33 l33 c33,aN A35 l35 c35])))))))))))) (fun J7=>
  ((∃ ys37:List (Int×Int×Int×Bool),RdS [.int .i64,.int .i64,.int .i64,.bool] σ2 p0 q0 ys37 /\
  Bh (List.length ([]:List (Int×Int×Int×Bool))+List.length ys37) (((∃ ys38:List Int,RdS aM σ2 m0 l0 ys38 /\
  Bh (List.length ([]:List Int)+List.length ys38) (∃ ys39:List Int,RdS aM σ2 i0 g0 ys39 /\
  Bh (List.length ([]:List Int)+List.length ys39) (exl 270 [.int .i64,.int .i64,.int .i64,.bool] (([]:List (Int×Int×Int×Bool))++ys37) σ2 (fun A40 l40 c40 s41=>
  exl 3 aM (([]:List Int)++ys38) s41 (fun A42 l42 c42 s43=>exl 3 aM (([]:List Int)++ys39) s43 (fun A44 l44 c44 s45=>
  J7 A3 l3 c3 n4 A40 l40 c40 A42 l42 c42 A44 l44 c44 d1 f1 g1 b2 c0 b0 d0 f0 e0 h0 o0 t0 n0 o1 l1 s1 u1 t1 w1 s45)))))) /\
  (∃ ys46:List Int,RdS aM σ2 m0 l0 ys46/\Bh (List.length ([]:List Int)+List.length ys46) (∃ ys47:List Int,RdS aM σ2 i0 g0 ys47 /\
  Bh (List.length ([]:List Int)+List.length ys47) (exl 270 [.int .i64,.int .i64,.int .i64,.bool] (([]:List (Int×Int×Int×Bool))++ys37) σ2 (fun A48 l48 c48 s49=>
  exl 3 aM (([]:List Int)++ys46) s49 (fun A50 l50 c50 s51=>exl 3 aM (([]:List Int)++ys47) s51 (fun A52 l52 c52 s53=>
  J7 A3 l3 c3 n4 A48 l48 c48 A50 l50 c50 A52 l52 c52 d1 f1 g1 b2 c0 b0 d0 f0 e0 h0 o0 t0 n0 o1 l1 s1 u1 t1 w1 s53))))))))) /\
  ((∃ ys54:List (Int×Int×Int×Bool),RdS [.int .i64,.int .i64,.int .i64,.bool] σ2 p0 q0 ys54 /\
  Bh (List.length ([]:List (Int×Int×Int×Bool))+List.length ys54) (((∃ ys55:List Int,RdS aM σ2 m0 l0 ys55 /\
  Bh (List.length ([]:List Int)+List.length ys55) (∃ ys56:List Int,RdS aM σ2 i0 g0 ys56 /\
  Bh (List.length ([]:List Int)+List.length ys56) (exl 270 [.int .i64,.int .i64,.int .i64,.bool] (([]:List (Int×Int×Int×Bool))++ys54) σ2 (fun A57 l57 c57 s58=>
  exl 3 aM (([]:List Int)++ys55) s58 (fun A59 l59 c59 s60=>exl 3 aM (([]:List Int)++ys56) s60 (fun A61 l61 c61 s62=>
  J7 A3 l3 c3 n4 A57 l57 c57 A59 l59 c59 A61 l61 c61 d1 f1 g1 b2 c0 b0 d0 f0 e0 h0 o0 t0 n0 o1 l1 s1 u1 t1 w1 s62)))))) /\
  (∃ ys63:List Int,RdS aM σ2 m0 l0 ys63/\Bh (List.length ([]:List Int)+List.length ys63) (∃ ys64:List Int,RdS aM σ2 i0 g0 ys64 /\
  Bh (List.length ([]:List Int)+List.length ys64) (exl 270 [.int .i64,.int .i64,.int .i64,.bool] (([]:List (Int×Int×Int×Bool))++ys54) σ2 (fun A65 l65 c65 s66=>
  exl 3 aM (([]:List Int)++ys63) s66 (fun A67 l67 c67 s68=>exl 3 aM (([]:List Int)++ys64) s68 (fun A69 l69 c69 s70=>
  J7 A3 l3 c3 n4 A65 l65 c65 A67 l67 c67 A69 l69 c69 d1 f1 g1 b2 c0 b0 d0 f0 e0 h0 o0 t0 n0 o1 l1 s1 u1 t1 w1 s70))))))))) /\
  (∃ ys71:List (Int×Int×Int×Bool),RdS [.int .i64,.int .i64,.int .i64,.bool] σ2 p0 q0 ys71 /\
  Bh (List.length ([]:List (Int×Int×Int×Bool))+List.length ys71) (∃ ys72:List Int,RdS aM σ2 m0 l0 ys72 /\
  Bh (List.length ([]:List Int)+List.length ys72) (∃ ys73:List Int,RdS aM σ2 i0 g0 ys73 /\
  Bh (List.length ([]:List Int)+List.length ys73) (exl 270 [.int .i64,.int .i64,.int .i64,.bool] (([]:List (Int×Int×Int×Bool))++ys71) σ2 (fun A74 l74 c74 s75=>
  exl 3 aM (([]:List Int)++ys72) s75 (fun A76 l76 c76 s77=>exl 3 aM (([]:List Int)++ys73) s77 (fun A78 l78 c78 s79=>
  J7 A3 l3 c3 n4 A74 l74 c74 A76 l76 c76 A78 l78 c78 d1 f1 g1 b2 c0 b0 d0 f0 e0 h0 o0 t0 n0 o1 l1 s1 u1 t1 w1 s79)))))))) /\
  ((∃ ys80:List (Int×Int×Int×Bool),RdS [.int .i64,.int .i64,.int .i64,.bool] σ2 p0 q0 ys80 /\
  Bh (List.length ([]:List (Int×Int×Int×Bool))+List.length ys80) (∃ ys81:List Int,RdS aM σ2 m0 l0 ys81 /\
  Bh (List.length ([]:List Int)+List.length ys81) (∃ ys82:List Int,RdS aM σ2 i0 g0 ys82 /\
  Bh (List.length ([]:List Int)+List.length ys82) (exl 270 [.int .i64,.int .i64,.int .i64,.bool] (([]:List (Int×Int×Int×Bool))++ys80) σ2 (fun A83 l83 c83 s84=>
  exl 3 aM (([]:List Int)++ys81) s84 (fun A85 l85 c85 s86=>exl 3 aM (([]:List Int)++ys82) s86 (fun A87 l87 c87 s88=>
  J7 A3 l3 c3 n4 A83 l83 c83 A85 l85 c85 A87 l87 c87 d1 f1 g1 b2 c0 b0 d0 f0 e0 h0 o0 t0 n0 o1 l1 s1 u1 t1 w1 s88))))))) /\
  (∃ ys89:List (Int×Int×Int×Bool),RdS [.int .i64,.int .i64,.int .i64,.bool] σ2 p0 q0 ys89 /\
  Bh (List.length ([]:List (Int×Int×Int×Bool))+List.length ys89) (∃ ys90:List Int,RdS aM σ2 m0 l0 ys90 /\
  Bh (List.length ([]:List Int)+List.length ys90) (∃ ys91:List Int,RdS aM σ2 i0 g0 ys91 /\
  Bh (List.length ([]:List Int)+List.length ys91) (exl 270 [.int .i64,.int .i64,.int .i64,.bool] (([]:List (Int×Int×Int×Bool))++ys89) σ2 (fun A92 l92 c92 s93=>
  exl 3 aM (([]:List Int)++ys90) s93 (fun A94 l94 c94 s95=>exl 3 aM (([]:List Int)++ys91) s95 (fun A96 l96 c96 s97=>
  J7 A3 l3 c3 n4 A92 l92 c92 A94 l94 c94 A96 l96 c96 d1 f1 g1 b2 c0 b0 d0 f0 e0 h0 o0 t0 n0 o1 l1 s1 u1 t1 w1 s97))))))))))))
def AH:OA:=⟨[],false,[]⟩
def C5:MPlan:=(.alt 14 false AH (.take 15 AH (.take 16 AH (.alt 17 false AH .done .done))) .done)
def Mg:MPlan:=(.alt 9 false AH (.take 13 AH C5) (.alt 13 true AH (.alt 9 false AH C5 .done) .done))
def Vc:MAn:=(aQ (aQ (aQ (.cut ⟨[true,true,false],3,[.slot 1 (.hb 0 0),.slot 2 (.hb 1 0),.slot 3 (.hb 2 0),.modb 2 35 [.sc (.slc),.sc (.int .i64),.sc (.slc),.sc (.slc),.sc (.slc),.sc (.slc),.sc (.int .i64),.sc (.slc),.sc (.slc),.sc (.int .i64),.sc (.int .i64),.sc (.int .i64),.sc (.slc),.sc (.slc)]],[]⟩ (.plan [4,9,14,17] (.take 1 AH (.take 2 AH (.take 3 AH (.take 6 AH (.take 7 AH (.take 11 AH (.take 12 AH (.new 0 AH (.new 5 AH (.new 10 AH (.alt 4 false AH (.take 8 AH Mg) (.alt 8 true AH (.alt 4 false AH Mg (.alt 13 true AH (.alt 4 false AH (.alt 9 false AH C5 .done) .done) .done)) (.alt 13 true AH (.alt 4 false AH (.take 8 AH (.alt 9 false AH C5 .done)) (.alt 8 true AH (.alt 4 false AH (.alt 9 false AH C5 .done) .done) .done)) .done)))))))))))))) (aQ (aQ (aQ (aQ (aQ (aQ .leaf))))))))))
theorem VB (σ:Hp) (k0:aA) (a0 j0:Nat) (v0:Int) (p0:aA) (q0 a1:Nat) (m0:aA) (l0 z0:Nat) (i0:aA) (g0 s0:Nat) (d1:aA) (f1 g1:Nat) (b2:Int) (c0:aA) (b0 d0:Nat) (f0:aA) (e0 h0:Nat) (o0 t0 n0:Int) (o1:aA) (l1 s1:Nat) (u1:aA) (t1 w1:Nat) (R:aB) (h:Ly σ k0 a0 j0 v0 p0 q0 a1 m0 l0 z0 i0 g0 s0 d1 f1 g1 b2 c0 b0 d0 f0 e0 h0 o0 t0 n0 o1 l1 s1 u1 t1 w1 R):Ag prog 13 #[(.agg #[aN k0 a0 j0,aD v0,aN p0 q0 a1,aN m0 l0 z0,aN i0 g0 s0,aN d1 f1 g1,aD b2,aN c0 b0 d0,aN f0 e0 h0,aD o0,aD t0,aD n0,aN o1 l1 s1,aN u1 t1 w1])] σ R:=
 Af HN Vc Tryz.func13 rfl (h:=h)
theorem Dx:prog.follows .mixedOrders=true:=by kernel_rfl
def HS (σ:Hp) (n low high:Int) (R:aB):Prop:=
 bc (decide (low<=n)) (rt σ R (.bool (decide (n<=high)))) (rt σ R (.bool false))
def Ry:MAn:=(aQ (.seq (.txt [⟨[],false,[]⟩,⟨[],false,[]⟩,⟨[],false,[]⟩,⟨[],true,[]⟩]) .leaf))
theorem Sx (σ:Hp) (n low high:Int) (R:aB) (h:HS σ n low high R):Ag prog 197 #[aD n,aD low,aD high] σ R:=
 Af Dx Ry Tryz.func197 rfl (h:=h)
def Fj (σ:Hp) (h1:aA) (x0 _:Nat) (j1:aA) (c1 _:Nat) (w0:aA) (r0 _:Nat) (R:aB):Prop:=
 aF (fun σ2=>aF (fun s5=>
  aF (fun s8=>aF (fun s11=>
  rt s11 R (aD 0)) (fun J12=>∃ I15:Nat->Int->Hp->Prop,(∃ n160,I15 n160 0 s8)/\∀ n16 n17 s14,I15 n16 n17 s14->∀ _:Nat->Value,bc (decide (n17<(r0:Int))) (ix w0 r0 n17 1 (fun b18 a19=>
  ldI s14 .i64 b18 a19 (fun n20=>aC 197 #[aD n20,aD 0,aD 10000] s14 (aI fun t23 s22=>(bc (!t23) (rt s22 R (aD 100)) (wk .i64 (n17+1) (fun n24=>
  bk s22 n16 (fun m25 s26=>I15 m25 n24 s26)))))))) (J12 s14))) (fun J9=>∃ I29:Nat->Int->Hp->Prop,(∃ n300,I29 n300 0 s5) /\
  ∀ n30 n31 s28,I29 n30 n31 s28->∀ _:Nat->Value,bc (decide (n31<(c1:Int))) (ix j1 c1 n31 1 (fun b32 a33=>
  ldI s28 .i64 b32 a33 (fun n34=>aC 197 #[aD n34,aD 0,aD 9] s28 (aI fun t37 s36=>(bc (!t37) (rt s36 R (aD 100)) (wk .i64 (n31+1) (fun n38=>
  bk s36 n30 (fun m39 s40=>I29 m39 n38 s40)))))))) (J9 s28))) (fun J6=>∃ I43:Nat->Int->Hp->Prop,(∃ n440,I43 n440 0 σ2) /\
  ∀ n44 n45 s42,I43 n44 n45 s42->∀ _:Nat->Value,bc (decide (n45<(x0:Int))) (aF (fun s47=>wk .i64 (n45+1) (fun n49=>bk s47 n44 (fun m50 s51=>I43 m50 n49 s51))) (fun J48=>
  ix h1 x0 n45 4 (fun b52 a53=>ldI s42 .i64 b52 a53 (fun n54=>ldI s42 .i64 b52 (a53+1) (fun n55=>
  ldI s42 .i64 b52 (a53+2) (fun n56=>ldB s42 b52 (a53+3) (fun _=>aG (fun t61 s59=>bc t61 (rt s59 R (aD 100)) (J48 s59)) (fun J60=>wk .i64 ((r0:Int)-1) (fun n62=>
  aC 197 #[aD n54,aD 0,aD n62] s42 (aI fun t65 s64=>(bc (!t65) (J60 true s64) (aC 197 #[aD n55,aD 1,aD 10000] s64 (aI fun t68 s67=>(bc (!t68) (J60 true s67) (aC 197 #[aD n56,aD 0,aD 9] s67 (aI fun t71 s70=>(J60 (!t71) s70))))))))))))))))) (J6 s42))) (fun J3=>aG (fun t75 s73=>bc t75 (rt s73 R (aD 100)) (J3 s73)) (fun J74=>bc (decide ((20:Int)<(x0:Int))) (J74 true σ) (bc (decide ((8:Int)<(c1:Int))) (J74 true σ) (J74 (decide ((10:Int)<(r0:Int))) σ))))
def AJ:OA:=⟨[],false,[]⟩
def N8:MAn:=(aQ (.cut ⟨[true],1,[.slot 1 (.hb 0 0)],[]⟩ (.cut ⟨[true],1,[.slot 1 (.hb 0 0),.slot 22 (.sc (.bool))],[]⟩ (.txt [AJ,AJ,AJ,AJ,⟨[],true,[]⟩,AJ,AJ,AJ,AJ,AJ,⟨[],true,[]⟩]) (.cond (aQ .leaf) .leaf)) (.cut ⟨[true],1,[.slot 1 (.hb 0 0)],[]⟩ (aQ (.block (.loop ⟨[true],1,[.slot 1 (.hb 0 0),.slot 3 (.sc (.int .i64))],[]⟩ (.seq (aQ (.cond .leaf .leaf)) (.cut ⟨[true],1,[.slot 1 (.hb 0 0)],[(3,true)]⟩ (.block (aQ (.cut ⟨[true,true],2,[.slot 1 (.hb 0 0),.slot 54 (.sc (.bool))],[(3,true)]⟩ (.txt [AJ,AJ,AJ,AJ,AJ,AJ,AJ,AJ,⟨[],true,[]⟩,AJ,AJ,AJ,AJ,AJ,⟨[],true,[]⟩]) (.cond (aQ .leaf) .leaf)))) (.txt [])))))) (.cut ⟨[true],1,[.slot 1 (.hb 0 0)],[]⟩ (aQ (.block (.loop ⟨[true],1,[.slot 1 (.hb 0 0),.slot 5 (.sc (.int .i64))],[]⟩ (.seq (aQ (.cond .leaf .leaf)) (.seq (.block (aQ (.cond (aQ .leaf) .leaf))) (.txt [])))))) (.cut ⟨[true],1,[],[]⟩ (aQ (.block (.loop ⟨[true],1,[.slot 1 (.hb 0 0),.slot 6 (.sc (.int .i64))],[]⟩ (.seq (aQ (.cond .leaf .leaf)) (.seq (.block (aQ (.cond (aQ .leaf) .leaf))) (.txt [])))))) (aQ .leaf))))))
theorem Oi (σ:Hp) (h1:aA) (x0 p1:Nat) (j1:aA) (c1 q1:Nat) (w0:aA) (r0 e1:Nat) (R:aB) (h:Fj σ h1 x0 p1 j1 c1 q1 w0 r0 e1 R):Ag prog 137 #[(.agg #[aN h1 x0 p1,aN j1 c1 q1,aN w0 r0 e1])] σ R:=
 Af Dx N8 Tryz.func137 rfl (h:=h)
def Jc (σ:Hp) (h1:aA) (x0 _:Nat) (j1:aA) (c1 _:Nat) (_:aA) (_ _:Nat) (rule first second:Int) (R:aB):Prop:=
 ix h1 x0 rule 4 (fun b1 a2=>ldI σ .i64 b1 a2 (fun _=>ldI σ .i64 b1 (a2+1) (fun _=>
  ldI σ .i64 b1 (a2+2) (fun n5=>ldB σ b1 (a2+3) (fun t6=>aF (fun s8=>
  bc (!t6) (rt s8 R (.bool (decide (second=(-1))))) (wk .i64 ((c1:Int)-1) (fun n10=>
  aC 197 #[aD second,aD 0,aD n10] s8 (aI fun t13 s12=>(bc t13 (bc (!decide (second=first)) (ix j1 c1 second 1 (fun b14 a15=>
  ldI s12 .i64 b14 a15 (fun n16=>rt s12 R (.bool (decide (n5<=n16)))))) (rt s12 R (.bool false))) (rt s12 R (.bool false))))))) (fun J9=>
  aG (fun t20 s18=>bc t20 (rt s18 R (.bool false)) (J9 s18)) (fun J19=>
  wk .i64 ((c1:Int)-1) (fun n21=>aC 197 #[aD first,aD 0,aD n21] σ (aI fun t24 s23=>(bc (!t24) (J19 true s23) (ix j1 c1 first 1 (fun b25 a26=>
  ldI s23 .i64 b25 a26 (fun n27=>J19 (decide (n27<n5)) s23)))))))))))))
def AA:OA:=⟨[],false,[]⟩
def Tq:MAn:=(aQ (aQ (.cut ⟨[true,true],2,[.slot 4 (.hb 0 0),.slot 9 (.hb 1 0)],[(2,true),(3,true)]⟩ (.cut ⟨[true,true],2,[.slot 4 (.hb 0 0),.slot 9 (.hb 1 0),.slot 31 (.sc (.bool))],[(2,true),(3,true)]⟩ (.plan [5] (tkYR4 5 0 AA (.alt 5 false AA (.take 6 AA (.take 7 ⟨[],true,[]⟩ (tkYR4 9 8 AA .done))) .done))) (.cond (aQ .leaf) .leaf)) (.seq (aQ (.cond (aQ .leaf) .leaf)) (.seq (.plan [5] (tkYR4 5 0 AA (.alt 5 false AA (.take 6 ⟨[],true,[]⟩ (tkYR4 4 7 AA (.take 11 ⟨[],true,[]⟩ (tkYR4 10 12 AA .done)))) .done))) .leaf)))))
theorem TG (σ:Hp) (h1:aA) (x0 p1:Nat) (j1:aA) (c1 q1:Nat) (w0:aA) (r0 e1:Nat) (rule first second:Int) (R:aB) (h:Jc σ h1 x0 p1 j1 c1 q1 w0 r0 e1 rule first second R):Ag prog 198 #[(.agg #[aN h1 x0 p1,aN j1 c1 q1,aN w0 r0 e1]),aD rule,aD first,aD second] σ R:=
 Af Dx Tq Tryz.func198 rfl (h:=h)
def K2 (σ:Hp) (l_A:aA) (l_n _:Nat) (n:Int) (R:aB):Prop:=
 aF (fun σ2=>aF (fun s5=>
  rt s5 R (.bool true)) (fun J6=>∃ I9:Nat->Int->Hp->Prop,(∃ n100,I9 n100 0 σ2)/\∀ n10 n11 s8,I9 n10 n11 s8->∀ _:Nat->Value,bc (decide (n11<(l_n:Int))) (aF (fun s13=>wk .i64 (n11+1) (fun n15=>bk s13 n10 (fun m16 s17=>I9 m16 n15 s17))) (fun J14=>
  aG (fun t21 s19=>bc t21 (rt s19 R (.bool false)) (J14 s19)) (fun J20=>
  ix l_A l_n n11 5 (fun b22 a23=>ldI s8 .i64 b22 (a23+1) (fun n24=>bc (decide (n24=3)) (ix l_A l_n n11 5 (fun b25 a26=>
  ldI s8 .i64 b25 (a26+2) (fun n27=>J20 (decide (n27=n)) s8))) (J20 false s8)))))) (J6 s8))) (fun J3=>
  aG (fun t31 s29=>bc t31 (rt s29 R (.bool false)) (J3 s29)) (fun J30=>
  wk .i64 ((l_n:Int)-1) (fun n32=>aC 197 #[aD n,aD 0,aD n32] σ (aI fun t35 s34=>(bc (!t35) (J30 true s34) (ix l_A l_n n 5 (fun b36 a37=>ldI s34 .i64 b36 (a37+1) (fun n38=>
  J30 (!decide (n38=2)) s34))))))))
def BI:OA:=⟨[],false,[]⟩
def Vl:MAn:=(aQ (.cut ⟨[],0,[],[(0,true),(1,true)]⟩ (.cut ⟨[],0,[.slot 19 (.sc (.bool))],[(0,true),(1,true)]⟩ (.txt [BI,BI,BI,BI,BI,BI,⟨[],true,[]⟩]) (.cond (aQ .leaf) .leaf)) (.cut ⟨[],0,[],[]⟩ (aQ (.block (.loop ⟨[],0,[.slot 5 (.sc (.int .i64))],[(0,true),(1,true)]⟩ (.seq (aQ (.cond .leaf .leaf)) (.cut ⟨[],0,[],[(0,true),(1,true),(5,true)]⟩ (.block (.cut ⟨[],0,[.slot 40 (.sc (.bool))],[(0,true),(1,true),(5,true)]⟩ (.txt [BI,BI,BI,BI,BI,BI,⟨[],true,[]⟩]) (.cond (aQ .leaf) .leaf))) (.txt [])))))) (aQ .leaf))))
theorem Vm (σ:Hp) (l_A:aA) (l_n l_c:Nat) (n:Int) (R:aB) (h:K2 σ l_A l_n l_c n R):Ag prog 199 #[aN l_A l_n l_c,aD n] σ R:=
 Af Dx Vl Tryz.func199 rfl (h:=h)
def Jt (σ:Hp) (h1:aA) (x0 p1:Nat) (j1:aA) (c1 q1:Nat) (w0:aA) (r0 e1:Nat) (e2:aA) (c2 i2:Nat) (j2 d2 x_A x_B x_C:Int) (R:aB):Prop:=
 aH (fun n4 σ2=>aC 197 #[aD j2,aD n4,aD 10000] σ2 (aI fun t7 s6=>(bc (!t7) (rt s6 R (.bool false)) (wk .i64 ((r0:Int)-1) (fun n8=>
  wk .i64 ((c1:Int)-1) (fun n9=>aC 197 #[aD x_A,aD 0,aD n8] s6 (aI fun t12 s11=>((Hp.Sub s6 s11/\aC 197 #[aD x_B,aD 0,aD n9] s11 (aI fun t15 s14=>(bc (decide (d2=1)) (wk .i64 ((x0:Int)-1) (fun n16=>
  aC 197 #[aD x_A,aD 0,aD n16] s14 (aI fun t19 s18=>(bc t19 (aC 198 #[(.agg #[aN h1 x0 p1,aN j1 c1 q1,aN w0 r0 e1]),aD x_A,aD x_B,aD x_C] s18 (aI fun t22 s21=>(rt s21 R (.bool t22)))) (rt s18 R (.bool false)))))) (bc (decide (d2=2)) (bc t12 (aC 197 #[aD x_B,aD 1,aD 3] s14 (aI fun t25 s24=>(bc t25 (rt s24 R (.bool (decide (x_C=0)))) (rt s24 R (.bool false))))) (rt s14 R (.bool false))) (bc (decide (d2=3)) (aC 199 #[aN e2 c2 i2,aD x_A] s14 (aI fun t28 s27=>(bc t28 (bc t15 (rt s27 R (.bool (decide (x_C=0)))) (rt s27 R (.bool false))) (rt s27 R (.bool false))))) (bc (decide (d2=4)) (bc t12 (bc t15 (rt s14 R (.bool (decide (x_C=0)))) (rt s14 R (.bool false))) (rt s14 R (.bool false))) (bc (decide (d2=5)) (bc t12 (aC 197 #[aD x_B,aD 0,aD 10000] s14 (aI fun t31 s30=>(bc t31 (rt s30 R (.bool (decide (x_C=0)))) (rt s30 R (.bool false))))) (rt s14 R (.bool false))) (bc (decide (d2=6)) (bc t12 (bc (decide (x_B=0)) (rt s14 R (.bool (decide (x_C=0)))) (rt s14 R (.bool false))) (rt s14 R (.bool false))) (rt s14 R (.bool false)))))))))))))))))) (fun J3=>
  bc (decide ((0:Int)<(c2:Int))) (wk .i64 ((c2:Int)-1) (fun n32=>
  ix e2 c2 n32 5 (fun b33 a34=>ldI σ .i64 b33 a34 (fun n35=>J3 n35 σ)))) (J3 0 σ))
def Aw:OA:=⟨[],false,[]⟩
def F2:MAn:=(.seq (.txt [Aw,⟨[],true,[]⟩,Aw,Aw,Aw,Aw,⟨[],true,[]⟩]) .leaf)
def TP:MAn:=(aQ (aQ (.cut ⟨[true,true],2,[.slot 3 (.hb 0 0),.slot 5 (.hb 1 0),.slot 7 (.sc (.int .i64))],[(1,true)]⟩ (aQ (.cond (.txt []) .leaf)) (.seq (aQ (.cond (aQ .leaf) .leaf)) (.seq (.plan [13] (tkYR4 6 0 Aw (tkYR4 6 7 Aw (.alt 6 true Aw (.alt 13 false Aw (.take 14 Aw (.take 15 Aw .done)) .done) .done)))) (.seq (aQ (.block (aQ (.cond (.seq (.txt [Aw,Aw,Aw,Aw,Aw,Aw,Aw,⟨[],true,[]⟩]) .leaf) (aQ (.cond F2 (aQ (.cond (.seq (.txt [Aw,Aw,Aw,Aw,⟨[],true,[]⟩,Aw,Aw,⟨[],true,[]⟩]) .leaf) (aQ (.cond (.seq (.txt [Aw,⟨[],true,[]⟩,Aw,Aw,⟨[],true,[]⟩]) .leaf) (aQ (.cond F2 (aQ (.cond F2 .leaf)))))))))))))) (aQ .leaf)))))))
theorem TS (σ:Hp) (h1:aA) (x0 p1:Nat) (j1:aA) (c1 q1:Nat) (w0:aA) (r0 e1:Nat) (e2:aA) (c2 i2:Nat) (j2 d2 x_A x_B x_C:Int) (R:aB) (h:Jt σ h1 x0 p1 j1 c1 q1 w0 r0 e1 e2 c2 i2 j2 d2 x_A x_B x_C R):Ag prog 138 #[(.agg #[aN h1 x0 p1,aN j1 c1 q1,aN w0 r0 e1]),aN e2 c2 i2,(.agg #[aD j2,aD d2,aD x_A,aD x_B,aD x_C])] σ R:=
 Af Dx TP Tryz.func138 rfl (h:=h)
def JT (σ:Hp) (h1:aA) (x0 p1:Nat) (j1:aA) (c1 q1:Nat) (w0:aA) (r0 e1:Nat) (l_A:aA) (l_n l_c:Nat) (R:aB):Prop:=
 aC 137 #[(.agg #[aN h1 x0 p1,aN j1 c1 q1,aN w0 r0 e1])] σ (aJ fun n3 σ2=>(bc (!decide (n3=0)) (rt σ2 R (.tuple #[aD 0,aD n3])) (bc (decide ((100:Int)<(l_n:Int))) (rt σ2 R (.tuple #[aD 0,aD 2])) (aF (fun s5=>rt s5 R (.tuple #[aD 0,aD 0])) (fun J6=>∃ I9:Nat->Int->Hp->Prop,(∃ n100,I9 n100 0 σ2) /\
  ∀ n10 n11 s8,I9 n10 n11 s8->∀ _:Nat->Value,bc (decide (n11<(l_n:Int))) ((0<=n11 /\
  n11<=(l_c:Int)/\ix l_A l_n n11 5 (fun b12 a13=>ldI s8 .i64 b12 a13 (fun n14=>ldI s8 .i64 b12 (a13+1) (fun n15=>
  ldI s8 .i64 b12 (a13+2) (fun n16=>ldI s8 .i64 b12 (a13+3) (fun n17=>ldI s8 .i64 b12 (a13+4) (fun n18=>
  aC 138 #[(.agg #[aN h1 x0 p1,aN j1 c1 q1,aN w0 r0 e1]),(aN l_A ((n11:Int).toNat) l_c),(.agg #[aD n14,aD n15,aD n16,aD n17,aD n18])] s8 (aI fun t21 s20=>(bc (!t21) (rt s20 R (.tuple #[aD n11,aD 101])) (wk .i64 (n11+1) (fun n22=>
  bk s20 n10 (fun m23 s24=>I9 m23 n22 s24))))))))))))) (J6 s8))))))
def BP:OA:=⟨[],false,[]⟩
def Ua:MAn:=(aQ (.seq (aQ (aQ (.cond (aQ .leaf) .leaf))) (.seq (aQ (.cond (aQ .leaf) .leaf)) (.cut ⟨[true],1,[],[]⟩ (aQ (.block (.loop ⟨[true],1,[.slot 2 (.hb 0 0),.slot 7 (.sc (.int .i64))],[(1,true)]⟩ (.seq (aQ (.cond .leaf .leaf)) (.seq (.block (.seq (.plan [8] (tkYR4 8 0 BP (.alt 8 false BP (.take 9 BP .done) .done))) (.cond (aQ .leaf) .leaf))) (.txt [])))))) (aQ .leaf)))))
theorem Uk (σ:Hp) (h1:aA) (x0 p1:Nat) (j1:aA) (c1 q1:Nat) (w0:aA) (r0 e1:Nat) (l_A:aA) (l_n l_c:Nat) (R:aB) (h:JT σ h1 x0 p1 j1 c1 q1 w0 r0 e1 l_A l_n l_c R):Ag prog 78 #[(.agg #[aN h1 x0 p1,aN j1 c1 q1,aN w0 r0 e1]),aN l_A l_n l_c] σ R:=
 Af Dx Ua Tryz.func78 rfl (h:=h)
def Lb (σ:Hp) (l_A:aA) (l_n l_c:Nat) (day:Int) (R:aB):Prop:=
 aH (fun n4 σ2=>(0<=n4/\n4<=(l_c:Int)/\rt σ2 R (aN l_A ((n4:Int).toNat) l_c))) (fun J3=>
  ∃ I7:Nat->Int->Hp->Prop,(∃ n80,I7 n80 0 σ)/\∀ n8 n9 s6,I7 n8 n9 s6->∀ _:Nat->Value,aF (fun s11=>wk .i64 (n9+1) (fun n13=>bk s11 n8 (fun m14 s15=>I7 m14 n13 s15))) (fun J12=>
  aG (fun t19 s17=>bc t19 (J12 s17) (J3 n9 s17)) (fun J18=>
  bc (decide (n9<(l_n:Int))) (ix l_A l_n n9 5 (fun b20 a21=>ldI s6 .i64 b20 a21 (fun n22=>
  J18 (decide (n22<=day)) s6))) (J18 false s6))))
def U2:MAn:=(aQ (aQ (.cut ⟨[],0,[.slot 5 (.sc (.int .i64))],[(0,true)]⟩ (.block (.loop ⟨[],0,[.slot 5 (.sc (.int .i64))],[(0,true),(1,true)]⟩ (.cut ⟨[],0,[],[(0,true),(1,true),(5,true)]⟩ (.cut ⟨[],0,[.slot 18 (.sc (.bool))],[(0,true),(1,true),(5,true)]⟩ (.txt [⟨[],false,[]⟩,⟨[],false,[]⟩,⟨[],false,[]⟩,⟨[],false,[]⟩,⟨[],true,[]⟩]) (.cond .leaf .leaf)) (.block (.txt []))))) (aQ .leaf))))
theorem VE (σ:Hp) (l_A:aA) (l_n l_c:Nat) (day:Int) (R:aB) (h:Lb σ l_A l_n l_c day R):Ag prog 142 #[aN l_A l_n l_c,aD day] σ R:=
 Af Dx U2 Tryz.func142 rfl (h:=h)
def F3 (σ:Hp) (h1:aA) (x0 p1:Nat) (j1:aA) (c1 q1:Nat) (w0:aA) (r0 e1:Nat) (l_A:aA) (l_n l_c:Nat) (day:Int) (R:aB):Prop:=
 aC 78 #[(.agg #[aN h1 x0 p1,aN j1 c1 q1,aN w0 r0 e1]),aN l_A l_n l_c] σ (fun v1 σ2=>
  ∃ n3 n4:Int,(v1=(.tuple #[aD n3,aD n4])/\bc (!decide (n4=0)) (rt σ2 R (aD n4)) (aC 197 #[aD day,aD 0,aD 10000] σ2 (aI fun t7 s6=>(bc (!t7) (rt s6 R (aD 1)) (rt s6 R (aD 0)))))))
def PE:MAn:=(aQ (.seq (aQ (aQ (.cond (aQ .leaf) .leaf))) (.seq (aQ (.cond (aQ .leaf) .leaf)) (aQ .leaf))))
theorem PF (σ:Hp) (h1:aA) (x0 p1:Nat) (j1:aA) (c1 q1:Nat) (w0:aA) (r0 e1:Nat) (l_A:aA) (l_n l_c:Nat) (day:Int) (R:aB) (h:F3 σ h1 x0 p1 j1 c1 q1 w0 r0 e1 l_A l_n l_c day R):Ag prog 140 #[(.agg #[aN h1 x0 p1,aN j1 c1 q1,aN w0 r0 e1]),aN l_A l_n l_c,aD day] σ R:=
 Af Dx PE Tryz.func140 rfl (h:=h)
def Jh (σ:Hp) (h1:aA) (x0 _:Nat) (_:aA) (_ _:Nat) (_:aA) (_ _:Nat) (l_A:aA) (l_n _:Nat) (rule day:Int) (R:aB):Prop:=
 aH (fun n4 σ2=>bc (decide ((0:Int)<=n4)) (wk .i64 (day-n4) (fun n5=>
  ix h1 x0 rule 4 (fun b6 a7=>ldI σ2 .i64 b6 (a7+1) (fun n8=>rt σ2 R (.bool (decide (n5<n8))))))) (rt σ2 R (.bool false))) (fun J3=>
  ∃ I11:Nat->Int->Int->Hp->Prop,(∃ n120,I11 n120 (-1) 0 σ)/\∀ n12 n13 n14 s10,I11 n12 n13 n14 s10->∀ _:Nat->Value,bc (decide (n14<(l_n:Int))) (aH (fun n18 s16=>wk .i64 (n14+1) (fun n19=>bk s16 n12 (fun m20 s21=>I11 m20 n18 n19 s21))) (fun J17=>
  aH (fun n25 s23=>aG (fun t29 s27=>bc t29 (J17 (-1) s27) (J17 n25 s27)) (fun J28=>ix l_A l_n n14 5 (fun b30 a31=>
  ldI s23 .i64 b30 (a31+1) (fun n32=>bc (decide (n32=6)) (ix l_A l_n n14 5 (fun b33 a34=>ldI s23 .i64 b33 (a34+2) (fun n35=>
  ix h1 x0 rule 4 (fun b36 a37=>ldI s23 .i64 b36 a37 (fun n38=>J28 (decide (n35=n38)) s23))))) (J28 false s23))))) (fun J24=>
  aG (fun t42 s40=>bc t42 (ix l_A l_n n14 5 (fun b43 a44=>
  ldI s40 .i64 b43 a44 (fun n45=>J24 n45 s40))) (J24 n13 s40)) (fun J41=>ix l_A l_n n14 5 (fun b46 a47=>
  ldI s10 .i64 b46 (a47+1) (fun n48=>bc (decide (n48=1)) (ix l_A l_n n14 5 (fun b49 a50=>ldI s10 .i64 b49 (a50+2) (fun n51=>
  J41 (decide (n51=rule)) s10))) (J41 false s10))))))) (J3 n13 s10))
def AP:OA:=⟨[],false,[]⟩
def TQ:MAn:=(aQ (aQ (.cut ⟨[true],1,[.slot 4 (.hb 0 0),.slot 9 (.sc (.int .i64))],[(2,true),(3,true)]⟩ (aQ (.block (.loop ⟨[true],1,[.slot 4 (.hb 0 0),.slot 9 (.sc (.int .i64)),.slot 10 (.sc (.int .i64))],[(1,true),(2,true),(3,true)]⟩ (.seq (aQ (.cond .leaf .leaf)) (.cut ⟨[true],1,[.slot 4 (.hb 0 0),.slot 9 (.sc (.int .i64))],[(1,true),(2,true),(3,true),(10,true)]⟩ (.block (.cut ⟨[true],1,[.slot 4 (.hb 0 0),.slot 9 (.sc (.int .i64))],[(1,true),(2,true),(3,true),(10,true)]⟩ (.cut ⟨[true],1,[.slot 4 (.hb 0 0),.slot 31 (.sc (.bool))],[(1,true),(2,true),(3,true),(9,true),(10,true)]⟩ (.txt [AP,AP,AP,AP,AP,AP,⟨[],true,[]⟩]) (.cond (.txt []) .leaf)) (.cut ⟨[true],1,[.slot 4 (.hb 0 0),.slot 56 (.sc (.bool))],[(1,true),(2,true),(3,true),(9,true),(10,true)]⟩ (.plan [] (tkYR4 6 0 AP (.take 6 ⟨[],true,[]⟩ (tkYR4 13 7 AP .done)))) (.cond (.txt []) .leaf)))) (.txt [])))))) (.seq (.txt [AP,AP,⟨[],true,[]⟩]) .leaf))))
theorem Ul (σ:Hp) (h1:aA) (x0 p1:Nat) (j1:aA) (c1 q1:Nat) (w0:aA) (r0 e1:Nat) (l_A:aA) (l_n l_c:Nat) (rule day:Int) (R:aB) (h:Jh σ h1 x0 p1 j1 c1 q1 w0 r0 e1 l_A l_n l_c rule day R):Ag prog 200 #[(.agg #[aN h1 x0 p1,aN j1 c1 q1,aN w0 r0 e1]),aN l_A l_n l_c,aD rule,aD day] σ R:=
 Af Dx TQ Tryz.func200 rfl (h:=h)
def G9 (σ:Hp) (h1:aA) (x0 p1:Nat) (j1:aA) (c1 q1:Nat) (w0:aA) (r0 e1:Nat) (l_A:aA) (l_n l_c:Nat) (ride day:Int) (R:aB):Prop:=
 aG (fun t4 σ2=>cut (α:=List Int->Hp->Prop) (fun xs8 s6=>
  ∀ _:Nat->Value,(0<=(4:Int)/\(4:Int)<=4/\(4:Int)<=(1000000000:Int)/\ix w0 r0 ride 1 (fun b9 a10=>
  ldI s6 .i64 b9 a10 (fun n11=>cut (α:=Bool->Int->List Int->Hp->Prop) (fun t15 n16 xs17 s13=>
  ∀ _:Nat->Value,cut (α:=List Int->Hp->Prop) (fun xs21 s19=>∀ _:Nat->Value,cut (α:=List Int->Hp->Prop) (fun xs25 s23=>
  ∀ _:Nat->Value,cut (α:=List Int->Hp->Prop) (fun xs29 s27=>∀ _:Nat->Value,exl 3 aM xs29 s27 (fun A30 l30 c30 s31=>
  rt s31 R (aN A30 l30 c30))) (fun J28=>bc (decide (n16<day)) (Bh (List.length xs25+List.length ([4]:List Int)) (J28 (xs25++([4]:List Int)) s23)) (J28 xs25 s23))) (fun J24=>
  bc (!t15) (Bh (List.length xs21+List.length ([3]:List Int)) (J24 (xs21++([3]:List Int)) s19)) (J24 xs21 s19))) (fun J20=>
  aG (fun t35 s33=>bc t35 (Bh (List.length xs8+List.length ([2]:List Int)) (J20 (xs8++([2]:List Int)) s33)) (J20 xs8 s33)) (fun J34=>
  (0<=(3:Int)/\3<((List.length xs17:Nat):Int)/\lat xs17 ((3:Int).toNat) (fun r36=>bc (decide ((0:Int)<r36)) (J34 true s13) ((0<=(2:Int) /\
  2<((List.length xs17:Nat):Int)/\lat xs17 ((2:Int).toNat) (fun r37=>J34 (decide ((1:Int)<r37)) s13)))))))) (fun J14=>
  ∃ I40:Nat->Bool->Int->Int->List Int->Hp->Prop,(∃ n410,I40 n410 false n11 0 (List.replicate (4:Int).toNat 0:List Int) s6) /\
  ∀ n41 t42 n43 n44 xs45 s39,I40 n41 t42 n43 n44 xs45 s39->∀ _:Nat->Value,bc (decide (n44<(l_n:Int))) (cut (α:=Bool->Int->List Int->Hp->Prop) (fun t49 n50 xs51 s47=>
  ∀ _:Nat->Value,wk .i64 (n44+1) (fun n52=>bk s47 n41 (fun m53 s54=>I40 m53 t49 n50 n52 xs51 s54))) (fun J48=>
  ix l_A l_n n44 5 (fun b55 a56=>ldI s39 .i64 b55 (a56+2) (fun n57=>bc (!decide (n57=ride)) (J48 t42 n43 xs45 s39) (ix l_A l_n n44 5 (fun b58 a59=>
  ldI s39 .i64 b58 (a59+1) (fun n60=>bc (decide (n60=2)) (aC 199 #[aN l_A l_n l_c,aD n44] s39 (aI fun t63 s62=>(bc t63 (ix l_A l_n n44 5 (fun b64 a65=>ldI s62 .i64 b64 (a65+3) (fun n66=>
  (0<=n66/\n66<((List.length xs45:Nat):Int)/\lat xs45 ((n66:Int).toNat) (fun r67=>wk .i64 (r67+1) (fun n68=>
  (0<=n66/\n66<((List.length xs45:Nat):Int)/\lat xs45 ((n66:Int).toNat) (fun _=>J48 t42 n43 (List.set xs45 ((n66:Int).toNat) n68) s62)))))))) (J48 t42 n43 xs45 s62)))) (bc (decide (n60=4)) (bc t42 (J48 true n43 xs45 s39) (ix l_A l_n n44 5 (fun b70 a71=>
  ldI s39 .i64 b70 a71 (fun n72=>J48 (decide (n72=day)) n43 xs45 s39)))) (bc (decide (n60=6)) (J48 false n43 xs45 s39) (bc (decide (n60=5)) (ix l_A l_n n44 5 (fun b73 a74=>
  ldI s39 .i64 b73 (a74+3) (fun n75=>J48 t42 n75 xs45 s39))) (J48 t42 n43 xs45 s39))))))))))) (J14 t42 n43 xs45 s39)))))) (fun J7=>
  bc (!t4) (adp 3 aM none 0 0 σ2 (fun (xs76:List Int) s77=>Bh (List.length xs76+List.length ([1]:List Int)) (J7 (xs76++([1]:List Int)) s77))) (adp 3 aM none 0 0 σ2 (fun (xs78:List Int) s79=>
  J7 xs78 s79)))) (fun J3=>∃ I82:Nat->Bool->Int->Hp->Prop,(∃ n830,I82 n830 true 0 σ)/\∀ n83 t84 n85 s81,I82 n83 t84 n85 s81->∀ _:Nat->Value,bc (decide (n85<(x0:Int))) (aG (fun t89 s87=>wk .i64 (n85+1) (fun n90=>bk s87 n83 (fun m91 s92=>I82 m91 t89 n90 s92))) (fun J88=>
  bc t84 (ix h1 x0 n85 4 (fun b93 a94=>ldI s81 .i64 b93 a94 (fun n95=>bc (!decide (n95=ride)) (J88 true s81) (aC 200 #[(.agg #[aN h1 x0 p1,aN j1 c1 q1,aN w0 r0 e1]),aN l_A l_n l_c,aD n85,aD day] s81 (aI fun t98 s97=>(J88 t98 s97)))))) (J88 false s81))) (J3 t84 s81))
def Bk:OA:=⟨[],false,[]⟩
def P9:MAn:=(aQ (aQ (aQ (.cut ⟨[true],1,[.slot 4 (.hb 0 0),.slot 10 (.sc (.bool))],[(1,true),(2,true),(3,true),(9,true)]⟩ (aQ (.block (.loop ⟨[true],1,[.slot 4 (.hb 0 0),.slot 10 (.sc (.bool)),.slot 11 (.sc (.int .i64))],[(1,true),(2,true),(3,true),(9,true)]⟩ (.seq (aQ (.cond .leaf .leaf)) (.cut ⟨[true],1,[.slot 4 (.hb 0 0),.slot 10 (.sc (.bool))],[(1,true),(2,true),(3,true),(9,true),(11,true)]⟩ (.block (.txt [Bk,⟨[],true,[]⟩,Bk,Bk,Bk,Bk,Bk,Bk,Bk,Bk,⟨[],true,[]⟩])) (.txt [])))))) (.cut ⟨[true],2,[.slot 4 (.hb 0 0),.slot 9 (.lst 1 3 aM)],[(1,true),(2,true),(3,true)]⟩ (aQ (.cond (.txt []) .leaf)) (aQ (aQ (aQ (.cut ⟨[true,true,false],3,[.slot 9 (.hl 1 0),.slot 12 (.hl 2 0),.slot 13 (.sc (.bool)),.slot 14 (.sc (.int .i64)),.modl 2 0 3 aM],[(3,true)]⟩ (aQ (.block (.loop ⟨[true,true,false],3,[.slot 9 (.hl 1 0),.slot 12 (.hl 2 0),.slot 13 (.sc (.bool)),.slot 14 (.sc (.int .i64)),.slot 15 (.sc (.int .i64)),.modl 2 0 3 aM],[(1,true),(2,true),(3,true)]⟩ (.seq (aQ (.cond .leaf .leaf)) (.cut ⟨[true,true,false],3,[.slot 9 (.hl 1 0),.slot 12 (.hl 2 0),.slot 13 (.sc (.bool)),.slot 14 (.sc (.int .i64)),.modl 2 0 3 aM],[(1,true),(2,true),(3,true),(15,true)]⟩ (.block (.seq (aQ (.cond .leaf .leaf)) (aQ (.block (aQ (.cond (aQ (.cond (.txt []) .leaf)) (aQ (.cond (.txt [Bk,⟨[],true,[]⟩]) (aQ (.cond (.txt []) (aQ (.cond (.txt []) .leaf)))))))))))) (.txt [])))))) (.cut ⟨[true,false,true],3,[.slot 9 (.lst 1 3 aM)],[(3,true),(13,true),(14,true)]⟩ (.cut ⟨[true,true,true],3,[.slot 9 (.hl 1 0),.slot 115 (.sc (.bool))],[(3,true),(13,true),(14,true)]⟩ (.txt [Bk,Bk,Bk,Bk,⟨[],true,[]⟩]) (.cond (.txt []) .leaf)) (.cut ⟨[true,false,true],3,[.slot 9 (.lst 1 3 aM)],[(3,true),(14,true)]⟩ (aQ (.cond (.txt []) .leaf)) (.cut ⟨[true,false,true],3,[.slot 9 (.lst 1 3 aM)],[]⟩ (aQ (.cond (.txt []) .leaf)) (aQ .leaf)))))))))))))
theorem Rg (σ:Hp) (h1:aA) (x0 p1:Nat) (j1:aA) (c1 q1:Nat) (w0:aA) (r0 e1:Nat) (l_A:aA) (l_n l_c:Nat) (ride day:Int) (R:aB) (h:G9 σ h1 x0 p1 j1 c1 q1 w0 r0 e1 l_A l_n l_c ride day R):Ag prog 141 #[(.agg #[aN h1 x0 p1,aN j1 c1 q1,aN w0 r0 e1]),aN l_A l_n l_c,aD ride,aD day] σ R:=
 Af Dx P9 Tryz.func141 rfl (h:=h)
def Gb (σ:Hp) (h1:aA) (x0 p1:Nat) (j1:aA) (c1 q1:Nat) (w0:aA) (r0 e1:Nat) (l_A:aA) (l_n l_c:Nat) (day:Int) (R:aB):Prop:=
 aC 140 #[(.agg #[aN h1 x0 p1,aN j1 c1 q1,aN w0 r0 e1]),aN l_A l_n l_c,aD day] σ (aJ fun n3 σ2=>(bc (!decide (n3=0)) (rt σ2 R (.tuple #[aN none 0 0,aD n3])) (cut (α:=aA->Nat->Nat->Hp->Prop) (fun A7 l7 c7 s5=>
  ∀ _:Nat->Value,rt s5 R (.tuple #[aN A7 l7 c7,aD 0])) (fun J6=>∃ I10:Nat->aA->Nat->Nat->Int->Hp->Prop,(∃ n110,I10 n110 none 0 0 0 σ2) /\
  ∀ n11 A12 l12 c12 n13 s9,I10 n11 A12 l12 c12 n13 s9->∀ _:Nat->Value,bc (decide (n13<(r0:Int))) (cut (α:=aA->Nat->Nat->Hp->Prop) (fun A17 l17 c17 s15=>
  ∀ _:Nat->Value,wk .i64 (n13+1) (fun n18=>bk s15 n11 (fun m19 s20=>I10 m19 A17 l17 c17 n18 s20))) (fun J16=>
  aC 142 #[aN l_A l_n l_c,aD day] s9 (aK fun A23 l23 c23 s22=>((Hp.Sub s9 s22/\aC 141 #[(.agg #[aN h1 x0 p1,aN j1 c1 q1,aN w0 r0 e1]),aN A23 l23 c23,aD n13,aD day] s22 (aK fun _ l26 _ s25=>(bc (decide ((l26:Int)=0)) (adp 3 aM A12 l12 c12 s25 (fun (xs27:List Int) s28=>
  Bh (List.length xs27+List.length ([n13]:List Int)) (exl 3 aM (xs27++([n13]:List Int)) s28 (fun A29 l29 c29 s30=>
  J16 A29 l29 c29 s30)))) (J16 A12 l12 c12 s25)))))))) (J6 A12 l12 c12 s9)))))
def BF:OA:=⟨[],false,[]⟩
def Pf:MAn:=(aQ (.seq (aQ (aQ (.cond (aQ .leaf) .leaf))) (aQ (.cut ⟨[true],1,[.slot 9 (.sc (.slc))],[]⟩ (aQ (.block (.loop ⟨[true],1,[.slot 3 (.hb 0 0),.slot 9 (.sc (.slc)),.slot 10 (.sc (.int .i64))],[(1,true),(2,true)]⟩ (.seq (aQ (.cond .leaf .leaf)) (.cut ⟨[true],1,[.slot 3 (.hb 0 0),.slot 9 (.sc (.slc))],[(1,true),(2,true),(10,true)]⟩ (.block (.seq (.plan [6] (.take 0 BF (.take 1 BF (.take 2 BF (.take 4 BF (.take 5 BF (.alt 3 true BF (.alt 6 false BF (.take 7 BF (.take 8 BF .done)) .done) .done))))))) (.cond (.txt []) .leaf))) (.txt [])))))) (aQ .leaf)))))
theorem PB (σ:Hp) (h1:aA) (x0 p1:Nat) (j1:aA) (c1 q1:Nat) (w0:aA) (r0 e1:Nat) (l_A:aA) (l_n l_c:Nat) (day:Int) (R:aB) (h:Gb σ h1 x0 p1 j1 c1 q1 w0 r0 e1 l_A l_n l_c day R):Ag prog 80 #[(.agg #[aN h1 x0 p1,aN j1 c1 q1,aN w0 r0 e1]),aN l_A l_n l_c,aD day] σ R:=
 Af Dx Pf Tryz.func80 rfl (h:=h)
theorem Eb:prog.follows .mixedOrders=true:=by kernel_rfl
def H5 (σ:Hp) (n low high:Int) (R:aB):Prop:=
 bc (decide (low<=n)) (rt σ R (.bool (decide (n<=high)))) (rt σ R (.bool false))
def RL:MAn:=(aQ (.seq (.txt [⟨[],false,[]⟩,⟨[],false,[]⟩,⟨[],false,[]⟩,⟨[],true,[]⟩]) .leaf))
theorem Sv (σ:Hp) (n low high:Int) (R:aB) (h:H5 σ n low high R):Ag prog 139 #[aD n,aD low,aD high] σ R:=
 Af Eb RL Tryz.func139 rfl (h:=h)
def Kb (σ:Hp) (y0:aA) (u0 _:Nat) (m1:aA) (i1 _:Nat) (x1 z1 y1:Int) (R:aB):Prop:=
 aF (fun σ2=>aF (fun s5=>
  aF (fun s8=>rt s8 R (aD 0)) (fun J9=>∃ I12:Nat->Int->Hp->Prop,(∃ n130,I12 n130 0 s5) /\
  ∀ n13 n14 s11,I12 n13 n14 s11->∀ _:Nat->Value,bc (decide (n14<(i1:Int))) (aF (fun s16=>wk .i64 (n14+1) (fun n18=>bk s16 n13 (fun m19 s20=>I12 m19 n18 s20))) (fun J17=>
  ix m1 i1 n14 4 (fun b21 a22=>ldI s11 .i64 b21 a22 (fun n23=>ldI s11 .i64 b21 (a22+1) (fun n24=>
  ldI s11 .i64 b21 (a22+2) (fun n25=>ldI s11 .i64 b21 (a22+3) (fun n26=>aG (fun t30 s28=>bc t30 (rt s28 R (aD 50)) (J17 s28)) (fun J29=>wk .i64 ((u0:Int)-1) (fun n31=>
  aC 139 #[aD n23,aD 0,aD n31] s11 (aI fun t34 s33=>(bc (!t34) (J29 true s33) (aC 139 #[aD n24,aD 0,aD 2] s33 (aI fun t37 s36=>(bc (!t37) (J29 true s36) (aC 139 #[aD n25,aD 1,aD 1000] s36 (aI fun t40 s39=>(bc (!t40) (J29 true s39) (aC 139 #[aD n26,aD 0,aD 1000] s39 (aI fun t43 s42=>(J29 (!t43) s42)))))))))))))))))))) (J9 s11))) (fun J6=>∃ I46:Nat->Int->Hp->Prop,(∃ n470,I46 n470 0 σ2) /\
  ∀ n47 n48 s45,I46 n47 n48 s45->∀ _:Nat->Value,bc (decide (n48<(u0:Int))) (aF (fun s50=>wk .i64 (n48+1) (fun n52=>bk s50 n47 (fun m53 s54=>I46 m53 n52 s54))) (fun J51=>
  ix y0 u0 n48 4 (fun b55 a56=>ldI s45 .i64 b55 a56 (fun n57=>ldI s45 .i64 b55 (a56+1) (fun n58=>
  ldI s45 .i64 b55 (a56+2) (fun n59=>ldI s45 .i64 b55 (a56+3) (fun n60=>aG (fun t64 s62=>bc t64 (rt s62 R (aD 50)) (J51 s62)) (fun J63=>wk .i64 (n48-1) (fun n65=>
  aC 139 #[aD n57,(aD (-1)),aD n65] s45 (aI fun t68 s67=>(bc (!t68) (J63 true s67) (aC 139 #[aD n58,aD 1,aD 1000] s67 (aI fun t71 s70=>(bc (!t71) (J63 true s70) (aC 139 #[aD n59,aD 0,aD 20] s70 (aI fun t74 s73=>(bc (!t74) (J63 true s73) (aC 139 #[aD n60,aD 1,aD 10000] s73 (aI fun t77 s76=>(J63 (!t77) s76)))))))))))))))))))) (J6 s45))) (fun J3=>aG (fun t81 s79=>bc t81 (rt s79 R (aD 50)) (J3 s79)) (fun J80=>bc (decide ((10:Int)<(u0:Int))) (J80 true σ) (bc (decide ((16:Int)<(i1:Int))) (J80 true σ) (aC 139 #[aD x1,aD 1,aD 1000] σ (aI fun t84 s83=>(bc (!t84) (J80 true s83) (aC 139 #[aD z1,aD 0,aD 20] s83 (aI fun t87 s86=>(bc (!t87) (J80 true s86) (aC 139 #[aD y1,aD 1,aD 1000] s86 (aI fun t90 s89=>(J80 (!t90) s89))))))))))))
def An:OA:=⟨[],false,[]⟩
def Ui:MAn:=(aQ (.cut ⟨[true],1,[.slot 1 (.hb 0 0)],[]⟩ (.cut ⟨[true],1,[.slot 1 (.hb 0 0),.slot 34 (.sc (.bool))],[]⟩ (.txt [An,An,An,An,⟨[],true,[]⟩,An,An,An,An,An,⟨[],true,[]⟩,An,An,An,An,An,⟨[],true,[]⟩,An,An,An,An,An,⟨[],true,[]⟩]) (.cond (aQ .leaf) .leaf)) (.cut ⟨[true],1,[.slot 1 (.hb 0 0)],[]⟩ (aQ (.block (.loop ⟨[true],1,[.slot 1 (.hb 0 0),.slot 3 (.sc (.int .i64))],[]⟩ (.seq (aQ (.cond .leaf .leaf)) (.cut ⟨[true],1,[.slot 1 (.hb 0 0)],[(3,true)]⟩ (.block (aQ (.cut ⟨[true,true],2,[.slot 1 (.hb 0 0),.slot 70 (.sc (.bool))],[(3,true)]⟩ (.txt [An,An,An,An,An,An,⟨[],true,[]⟩,An,An,An,An,An,⟨[],true,[]⟩,An,An,An,An,An,⟨[],true,[]⟩]) (.cond (aQ .leaf) .leaf)))) (.txt [])))))) (.cut ⟨[true],1,[],[]⟩ (aQ (.block (.loop ⟨[true],1,[.slot 1 (.hb 0 0),.slot 5 (.sc (.int .i64))],[]⟩ (.seq (aQ (.cond .leaf .leaf)) (.cut ⟨[true],1,[.slot 1 (.hb 0 0)],[(5,true)]⟩ (.block (aQ (.cut ⟨[true,true],2,[.slot 1 (.hb 0 0),.slot 108 (.sc (.bool))],[(5,true)]⟩ (.txt [An,An,An,An,An,An,An,An,⟨[],true,[]⟩,An,An,An,An,An,⟨[],true,[]⟩,An,An,An,An,An,⟨[],true,[]⟩]) (.cond (aQ .leaf) .leaf)))) (.txt [])))))) (aQ .leaf)))))
theorem Uf (σ:Hp) (y0:aA) (u0 k1:Nat) (m1:aA) (i1 r1:Nat) (x1 z1 y1:Int) (R:aB) (h:Kb σ y0 u0 k1 m1 i1 r1 x1 z1 y1 R):Ag prog 79 #[(.agg #[aN y0 u0 k1,aN m1 i1 r1,aD x1,aD z1,aD y1])] σ R:=
 Af Eb Ui Tryz.func79 rfl (h:=h)
def QR (σ:Hp) (set load:Int) (R:aB):Prop:=
 wk .u64 (load) (fun n1=>(0<=n1/\wk .i64 (((BitVec.ofInt (IntKind.bits .i64) (Int.fdiv set (2^(min (n1:Int).toNat (IntKind.bits .i64)))) &&& BitVec.ofInt (IntKind.bits .i64) 1).toNat:Int)) (fun n2=>
  rt σ R (.bool (decide (n2=1))))))
def WU:MAn:=(aQ (aQ .leaf))
theorem W3 (σ:Hp) (set load:Int) (R:aB) (h:QR σ set load R):Ag prog 278 #[aD set,aD load] σ R:=
 Af Eb WU Tryz.func278 rfl (h:=h)
def JH (σ:Hp) (y0:aA) (u0 _:Nat) (_:aA) (_ _:Nat) (_ _ _ board top:Int) (R:aB):Prop:=
 aH (fun n4 σ2=>rt σ2 R (.bool (decide (n4=top)))) (fun J3=>
  ∃ I7:Nat->Int->Hp->Prop,(∃ n80,I7 n80 board σ)/\∀ n8 n9 s6,I7 n8 n9 s6->∀ _:Nat->Value,bc (decide (top<n9)) (ix y0 u0 n9 4 (fun b10 a11=>
  ldI s6 .i64 b10 a11 (fun n12=>bk s6 n8 (fun m13 s14=>I7 m13 n12 s14)))) (J3 n9 s6))
def SY:MAn:=(aQ (.cut ⟨[true],1,[.slot 1 (.sc (.int .i64))],[(2,true)]⟩ (.block (.loop ⟨[true],1,[.slot 1 (.sc (.int .i64)),.slot 3 (.hb 0 0)],[(2,true)]⟩ (.seq (aQ (.cond .leaf .leaf)) (.block (.txt []))))) (aQ .leaf)))
theorem Um (σ:Hp) (y0:aA) (u0 k1:Nat) (m1:aA) (i1 r1:Nat) (x1 z1 y1 board top:Int) (R:aB) (h:JH σ y0 u0 k1 m1 i1 r1 x1 z1 y1 board top R):Ag prog 279 #[(.agg #[aN y0 u0 k1,aN m1 i1 r1,aD x1,aD z1,aD y1]),aD board,aD top] σ R:=
 Af Eb SY Tryz.func279 rfl (h:=h)
def GW (σ:Hp) (y0:aA) (u0 k1:Nat) (m1:aA) (i1 r1:Nat) (x1 z1 y1 set board phase:Int) (R:aB):Prop:=
 aH (fun n4 σ2=>rt σ2 R (aD n4)) (fun J3=>∃ I7:Nat->Int->Int->Hp->Prop,(∃ n80,I7 n80 0 0 σ) /\
  ∀ n8 n9 n10 s6,I7 n8 n9 n10 s6->∀ _:Nat->Value,bc (decide (n10<(i1:Int))) (aH (fun n14 s12=>wk .i64 (n10+1) (fun n15=>bk s12 n8 (fun m16 s17=>I7 m16 n14 n15 s17))) (fun J13=>
  ix m1 i1 n10 4 (fun b18 a19=>ldI s6 .i64 b18 a19 (fun n20=>ldI s6 .i64 b18 (a19+1) (fun n21=>
  ldI s6 .i64 b18 (a19+2) (fun n22=>ldI s6 .i64 b18 (a19+3) (fun _=>aG (fun t27 s25=>bc t27 (wk .i64 (n9+n22) (fun n28=>J13 n28 s25)) (J13 n9 s25)) (fun J26=>aC 278 #[aD set,aD n10] s6 (aI fun t31 s30=>(bc t31 (bc (decide (n21=phase)) (bc (decide (board<0)) (J26 true s30) (aC 279 #[(.agg #[aN y0 u0 k1,aN m1 i1 r1,aD x1,aD z1,aD y1]),aD n20,aD board] s30 (aI fun t34 s33=>(J26 t34 s33)))) (J26 false s30)) (J26 false s30))))))))))) (J3 n9 s6))
def BD:OA:=⟨[],false,[]⟩
def Qz:MAn:=(aQ (aQ (.cut ⟨[true],1,[.slot 9 (.sc (.int .i64))],[]⟩ (aQ (.block (.loop ⟨[true],1,[.slot 4 (.hb 0 0),.slot 9 (.sc (.int .i64)),.slot 10 (.sc (.int .i64))],[(1,true),(2,true),(3,true)]⟩ (.seq (aQ (.cond .leaf .leaf)) (.cut ⟨[true],1,[.slot 4 (.hb 0 0),.slot 9 (.sc (.int .i64))],[(1,true),(2,true),(3,true),(10,true)]⟩ (.block (aQ (.cut ⟨[true,true],2,[.slot 4 (.hb 0 0),.slot 11 (.hb 1 0),.slot 43 (.sc (.bool))],[(1,true),(2,true),(3,true),(9,true),(10,true)]⟩ (.txt [BD,BD,BD,⟨[],true,[]⟩,BD,BD,BD,BD,BD,⟨[],true,[]⟩,BD,BD,⟨[],true,[]⟩]) (.cond (.txt []) .leaf)))) (.txt [])))))) (aQ .leaf))))
theorem Qj (σ:Hp) (y0:aA) (u0 k1:Nat) (m1:aA) (i1 r1:Nat) (x1 z1 y1 set board phase:Int) (R:aB) (h:GW σ y0 u0 k1 m1 i1 r1 x1 z1 y1 set board phase R):Ag prog 252 #[(.agg #[aN y0 u0 k1,aN m1 i1 r1,aD x1,aD z1,aD y1]),aD set,aD board,aD phase] σ R:=
 Af Eb Qz Tryz.func252 rfl (h:=h)
def Ju (σ:Hp) (y0:aA) (u0 _:Nat) (_:aA) (_ _:Nat) (x1 _ _ board:Int) (R:aB):Prop:=
 bc (decide (board<0)) (rt σ R (aD x1)) (ix y0 u0 board 4 (fun b1 a2=>
  ldI σ .i64 b1 (a2+1) (fun n3=>rt σ R (aD n3))))
def TE:MAn:=(aQ (.seq (aQ (.cond (aQ .leaf) .leaf)) (aQ .leaf)))
theorem T7 (σ:Hp) (y0:aA) (u0 k1:Nat) (m1:aA) (i1 r1:Nat) (x1 z1 y1 board:Int) (R:aB) (h:Ju σ y0 u0 k1 m1 i1 r1 x1 z1 y1 board R):Ag prog 253 #[(.agg #[aN y0 u0 k1,aN m1 i1 r1,aD x1,aD z1,aD y1]),aD board] σ R:=
 Af Eb TE Tryz.func253 rfl (h:=h)
def K8 (σ:Hp) (y0:aA) (u0 k1:Nat) (m1:aA) (i1 r1:Nat) (x1 z1 y1 set board:Int) (R:aB):Prop:=
 aF (fun σ2=>rt σ2 R (.bool false)) (fun J3=>∃ I6:Nat->Int->Hp->Prop,(∃ n70,I6 n70 0 σ) /\
  ∀ n7 n8 s5,I6 n7 n8 s5->∀ _:Nat->Value,bc (decide (n8<3)) (aC 252 #[(.agg #[aN y0 u0 k1,aN m1 i1 r1,aD x1,aD z1,aD y1]),aD set,aD board,aD n8] s5 (aJ fun n11 s10=>((Hp.Sub s5 s10/\aC 253 #[(.agg #[aN y0 u0 k1,aN m1 i1 r1,aD x1,aD z1,aD y1]),aD board] s10 (aJ fun n14 s13=>(bc (decide (n14<n11)) (rt s13 R (.bool true)) (wk .i64 (n8+1) (fun n15=>
  bk s13 n7 (fun m16 s17=>I6 m16 n15 s17))))))))) (J3 s5))
def B3:OA:=⟨[],false,[]⟩
def Vf:MAn:=(aQ (.cut ⟨[true],1,[],[]⟩ (aQ (.block (.loop ⟨[true],1,[.slot 3 (.hb 0 0),.slot 7 (.sc (.int .i64))],[(1,true),(2,true)]⟩ (.seq (aQ (.cond .leaf .leaf)) (.seq (.block (.seq (.plan [7] (tkYR4 4 0 B3 (.take 5 B3 (.take 6 B3 (.alt 4 true B3 (.alt 7 false B3 (.take 8 B3 .done) .done) .done))))) (.cond (aQ .leaf) .leaf))) (.txt [])))))) (aQ .leaf)))
theorem VC (σ:Hp) (y0:aA) (u0 k1:Nat) (m1:aA) (i1 r1:Nat) (x1 z1 y1 set board:Int) (R:aB) (h:K8 σ y0 u0 k1 m1 i1 r1 x1 z1 y1 set board R):Ag prog 201 #[(.agg #[aN y0 u0 k1,aN m1 i1 r1,aD x1,aD z1,aD y1]),aD set,aD board] σ R:=
 Af Eb Vf Tryz.func201 rfl (h:=h)
def F0 (σ:Hp) (y0:aA) (u0 k1:Nat) (m1:aA) (i1 r1:Nat) (x1 z1 y1 set:Int) (R:aB):Prop:=
 aC 79 #[(.agg #[aN y0 u0 k1,aN m1 i1 r1,aD x1,aD z1,aD y1])] σ (aJ fun n3 σ2=>(bc (!decide (n3=0)) (rt σ2 R (aD n3)) (wk .u64 ((i1:Int)) (fun n4=>
  (0<=n4/\wk .i64 (1*2^(min (n4:Int).toNat (IntKind.bits .i64))) (fun n5=>wk .i64 (n5-1) (fun n6=>
  aC 139 #[aD set,aD 0,aD n6] σ2 (aI fun t9 s8=>(bc (!t9) (rt s8 R (aD 1)) (rt s8 R (aD 0)))))))))))
def PK:MAn:=(aQ (.seq (aQ (aQ (.cond (aQ .leaf) .leaf))) (.seq (aQ (.cond (aQ .leaf) .leaf)) (aQ .leaf))))
theorem Ph (σ:Hp) (y0:aA) (u0 k1:Nat) (m1:aA) (i1 r1:Nat) (x1 z1 y1 set:Int) (R:aB) (h:F0 σ y0 u0 k1 m1 i1 r1 x1 z1 y1 set R):Ag prog 143 #[(.agg #[aN y0 u0 k1,aN m1 i1 r1,aD x1,aD z1,aD y1]),aD set] σ R:=
 Af Eb PK Tryz.func143 rfl (h:=h)
def Lh (σ:Hp) (y0:aA) (u0 k1:Nat) (m1:aA) (i1 r1:Nat) (x1 z1 y1 set:Int) (R:aB):Prop:=
 aF (fun σ2=>rt σ2 R (.tuple #[aD 0,.bool false])) (fun J3=>
  ∃ I6:Nat->Int->Hp->Prop,(∃ n70,I6 n70 (-1) σ)/\∀ n7 n8 s5,I6 n7 n8 s5->∀ _:Nat->Value,bc (decide (n8<(u0:Int))) (aC 201 #[(.agg #[aN y0 u0 k1,aN m1 i1 r1,aD x1,aD z1,aD y1]),aD set,aD n8] s5 (aI fun t11 s10=>(bc t11 (rt s10 R (.tuple #[aD n8,.bool true])) (wk .i64 (n8+1) (fun n12=>
  bk s10 n7 (fun m13 s14=>I6 m13 n12 s14)))))) (J3 s5))
def VA:MAn:=(aQ (.cut ⟨[true],1,[],[]⟩ (aQ (.block (.loop ⟨[true],1,[.slot 2 (.hb 0 0),.slot 6 (.sc (.int .i64))],[(1,true)]⟩ (.seq (aQ (.cond .leaf .leaf)) (.seq (.block (aQ (.cond (aQ .leaf) .leaf))) (.txt [])))))) (aQ .leaf)))
theorem U0 (σ:Hp) (y0:aA) (u0 k1:Nat) (m1:aA) (i1 r1:Nat) (x1 z1 y1 set:Int) (R:aB) (h:Lh σ y0 u0 k1 m1 i1 r1 x1 z1 y1 set R):Ag prog 144 #[(.agg #[aN y0 u0 k1,aN m1 i1 r1,aD x1,aD z1,aD y1]),aD set] σ R:=
 Af Eb VA Tryz.func144 rfl (h:=h)
def Lj (σ:Hp) (y0:aA) (u0 k1:Nat) (m1:aA) (i1 r1:Nat) (x1 z1 y1 set:Int) (R:aB):Prop:=
 aC 143 #[(.agg #[aN y0 u0 k1,aN m1 i1 r1,aD x1,aD z1,aD y1]),aD set] σ (aJ fun n3 σ2=>(bc (!decide (n3=0)) (rt σ2 R (.tuple #[aD 0,.bool false,aD n3])) (aC 144 #[(.agg #[aN y0 u0 k1,aN m1 i1 r1,aD x1,aD z1,aD y1]),aD set] σ2 (fun v4 s5=>
  ∃ n6:Int,∃ t7:Bool,(v4=(.tuple #[aD n6,.bool t7])/\rt s5 R (.tuple #[aD n6,(.bool (!t7)),aD 0]))))))
def Vh:MAn:=(aQ (.seq (aQ (aQ (.cond (aQ .leaf) .leaf))) (aQ (aQ .leaf))))
theorem Va (σ:Hp) (y0:aA) (u0 k1:Nat) (m1:aA) (i1 r1:Nat) (x1 z1 y1 set:Int) (R:aB) (h:Lj σ y0 u0 k1 m1 i1 r1 x1 z1 y1 set R):Ag prog 81 #[(.agg #[aN y0 u0 k1,aN m1 i1 r1,aD x1,aD z1,aD y1]),aD set] σ R:=
 Af Eb Vh Tryz.func81 rfl (h:=h)
end Go.Proofs.YtoelhdjloaknbaaGreat
