/- Do, Dp, Dr, Gd4, Zqt, Gd7, Pure24, Gd8, Arg, Laid, put together. -/
import Derived.Test.YtfgkhhfkodlbpaaDoorPk4
import Derived.Test.YtfgkhhfkodlbpaaDoorCards
import Derived.Test.YtfgkhhfkodlbpaaDoorTie
import Derived.LaidMore
import Derived.MakeChecks
import Derived.Lib.LaidU8
import Derived.Stop.Joined
namespace Go.Proofs.YtfgkhhfkodlbpaaDoor
open Xe

theorem arr74 : arrB Tryd.prog 74 3 3 1 = true:=by kernel_rfl

theorem dec1_ok (n : Nat) : ∀ (w0 : World) (M : Mem) (Γ : List As) (b : List Nat) (ab : Option Addr) (cb : Nat) (d : Nat) (l : Int) (a : Nat) (bl ba bf bb : Nat),d+n = 25->1<=d->0<=l->l<=256->a<=b.length->(∀ x∈b,x < 256)->Rd M (dbytes b) (.slice ab b.length cb) ->
   CallOk Tryd.prog w0 M (.own bl 3 [vint l]::.own ba 3 [vint (a : Nat)]::.own bf 73 [(.func (.func 23) #[] #[.pointer (some (adr (some ⟨bl,0,none⟩) 0)),.pointer (some (adr (some ⟨bb,0,none⟩) 0)),.pointer (some (adr (some ⟨ba,0,none⟩) 0)),.pointer (some (adr (some ⟨bf,0,none⟩) 0))])]::.own bb 23 [.slice ab b.length cb]::Γ) 23 #[vint d,.pointer (some (adr (some ⟨bl,0,none⟩) 0)),.pointer (some (adr (some ⟨bb,0,none⟩) 0)),.pointer (some (adr (some ⟨ba,0,none⟩) 0)),.pointer (some (adr (some ⟨bf,0,none⟩) 0))]
     (fun u M' Γ'=>Sub M M'/\Γ' = .own bl 3 [vint (decF b n l a).2.2.1]::.own ba 3 [vint ((decF b n l a).2.2.2 : Nat)]::.own bf 73 [(.func (.func 23) #[] #[.pointer (some (adr (some ⟨bl,0,none⟩) 0)),.pointer (some (adr (some ⟨bb,0,none⟩) 0)),.pointer (some (adr (some ⟨ba,0,none⟩) 0)),.pointer (some (adr (some ⟨bf,0,none⟩) 0))])]::.own bb 23 [.slice ab b.length cb]::Γ/\∃ us,u = .tuple #[.agg us.toArray,vint (decF b n l a).2.1]/\RdL M' (decF b n l a).1.enc us):=by
 induction n using Nat.strongRecOn
 rename_i n ih
 intro w0 M Γ b ab cb d l a bl ba bf bb hd hd1 hl0 hl hab h256 hb
 obtain ⟨_,_,hsl0,hcb0,hlimb,_⟩:=hb.slice
 have hcb : b.length<=cb:=by simp only [Value.slice.injEq] at hsl0;omega
 refine enterCell2 (f:=23) Tryd.func23 rfl Tryd.ntmps23 rfl rfl fun w1 hw1=>?_
 refine CW.seq fun K1 hK1=>?_
 refine CW.region ?_
 refine RL.alloc _ zero44 rfl rfl fun b6=>?_
 refine RL.q (Y.assign rfl) rfl ?_
 refine RL.nil ?_
 refine hK1 _ _ _ ?_
 refine CW.kp [0,1,2,3,4,6] rfl ?_
 refine CW.seq fun K2 hK2=>?_
 refine CW.seq fun K3 hK3=>?_
 refine CW.region ?_
 first | refine RL.q (Y.loadOwnV rfl MM MM Q3 flat3) rfl ?_ | refine RL.q (Y.loadOwn rfl MM Q3 flat3) rfl ?_ | refine RL.loadOwnSl rfl rfl MM MM Q3 flat3 rfl fun a16 c16 hu16 hc16 hl16=>?_
 refine RL.q (Y.sub rfl rfl OM) rfl ?_
 refine RL.store _ rfl rfl RP Q3 Q2 Q3 size3 ?_
 refine RL.nil ?_
 refine hK3 _ _ _ ?_
 refine CW.kp [0,1,2,3,4,6] rfl ?_
 refine CW.seq fun K4 hK4=>?_
 refine CW.region ?_
 first | refine RL.q (Y.loadOwnV rfl MM MM Q3 flat3) rfl ?_ | refine RL.q (Y.loadOwn rfl MM Q3 flat3) rfl ?_ | refine RL.loadOwnSl rfl rfl MM MM Q3 flat3 rfl fun a18 c18 hu18 hc18 hl18=>?_
 refine RL.qs (Y.lss rfl rfl) rfl (fun g19=>?_) (fun g19=>?_)
 ·refine RL.q (Y.move rfl) rfl ?_
  refine RL.no WG rfl ?_
  refine RL.no WG rfl ?_
  refine RL.q (Y.pickT rfl rfl) rfl ?_
  refine RL.nil ?_
  refine hK4 _ _ _ ?_
  refine CW.kp [0,2,3,4,6,23] rfl ?_
  refine CW.yes rfl ?_
  refine CW.seq fun K5 hK5=>?_
  refine CW.region ?_
  refine RL.q (Y.build [_,_,_] rfl zero44 places44 Q3) rfl ?_
  first | refine RL.storeRds 3 rfl rfl RP MM EL Q7 size44 ?_ | refine RL.storeAgg _ rfl rfl RP Q3 Q5 Q6 size44 ?_
  refine RL.q (Y.assign rfl) rfl ?_
  refine RL.nil ?_
  refine hK5 _ _ _ ?_
  refine CW.kp [6,7] rfl ?_
  refine CW.ret ?_
  have e : decF b n l a = (v0,4,l - 1,a):=by
    cases n with
    | zero=>rfl
    | succ n=>rw [decF,if_pos OM]
  refine ⟨_,rfl,?_⟩
  exact CellAt.mk rfl MM (by first | rfl | assumption) agg44 (Turn.drop ⟨Sub.refl _,by rw [e],_,by rw [e],by rw [e];exact (by rw [Val.enc_eq];exact (by repeat (first | exact RdL.nil _ | refine RdL.cons (by first | exact Rd.i _ | exact Rd.nilS | exact Rd.str _ | assumption) ?_)))⟩ SB)
 refine RL.q (Y.move rfl) rfl ?_
 refine RL.qg WG (Y.move rfl) rfl ?_
 refine RL.qg WG (Y.gtr rfl rfl) rfl ?_
 refine RL.q (Y.pickF rfl rfl) rfl ?_
 refine RL.nil ?_
 refine hK4 _ _ _ ?_
 refine CW.kp [0,2,3,4,6,23] rfl ?_
 refine CW.ite rfl (fun h1=>?_) (fun h1=>?_)
 ·refine CW.seq fun K6 hK6=>?_
  refine CW.region ?_
  refine RL.q (Y.build [_,_,_] rfl zero44 places44 Q3) rfl ?_
  first | refine RL.storeRds 3 rfl rfl RP MM EL Q7 size44 ?_ | refine RL.storeAgg _ rfl rfl RP Q3 Q5 Q6 size44 ?_
  refine RL.q (Y.assign rfl) rfl ?_
  refine RL.nil ?_
  refine hK6 _ _ _ ?_
  refine CW.kp [6,7] rfl ?_
  refine CW.ret ?_
  have e : decF b n l a = (v0,4,l - 1,a):=by
    cases n with
    | zero=>rfl
    | succ n=>rw [decF,if_pos OM]
  refine ⟨_,rfl,?_⟩
  exact CellAt.mk rfl MM (by first | rfl | assumption) agg44 (Turn.drop ⟨Sub.refl _,by rw [e],_,by rw [e],by rw [e];exact (by rw [Val.enc_eq];exact (by repeat (first | exact RdL.nil _ | refine RdL.cons (by first | exact Rd.i _ | exact Rd.nilS | exact Rd.str _ | assumption) ?_)))⟩ SB)
 obtain ⟨n,rfl⟩ : ∃ m,n = m+1:=⟨n - 1,Q0⟩
 have hl1 : ¬ l - 1 < 0:=Q0
 refine CW.skip ?_
 refine hK2 _ _ _ ?_
 refine CW.seq fun K7 hK7=>?_
 refine CW.region ?_
 refine RL.alloc _ zero74 rfl rfl fun b8=>?_
 refine RL.nil ?_
 refine hK7 _ _ _ ?_
 refine CW.kp [0,2,3,4,6,8] rfl ?_
 refine CW.seq fun K8 hK8=>?_
 refine CW.seq fun K9 hK9=>?_
 refine CW.region ?_
 refine RL.q (Y.move rfl) rfl ?_
 refine RL.nil ?_
 refine hK9 _ _ _ ?_
 refine CW.kp [0,2,3,4,6,8,25] rfl ?_
 refine CW.block ?_
 -- LOOP 1: live [0,2,3,4,6,8,25] changed [25]
 refine CW.kp [25,0,2,3,4,6,8] rfl ?_
 refine CW.front (x:=.own ba 3 [vint (a : Nat)]) PK ?_
 refine CW.front (x:=.own bl 3 [vint (l - 1)]) PK ?_
 refine CW.front (x:=.own b8 74 _) PK ?_
 refine CW.loopF (fun m Lc M1 Γc=>∃ (i ai : Nat) (acc : List Int),m = 3 - i/\i<=3/\Lc = [(25,vint i)]/\Γc = [.own b8 74 (ints (pad3 acc)),.own bl 3 [vint (l - 1)],.own ba 3 [vint (ai : Nat)]]/\M1 = M/\acc.length = i/\ai<=b.length/\nums b 3 a [] = nums b (3 - i) ai acc) 3 [(25,_)] [_,_,_] rfl rfl ⟨0,a,[],rfl,Q0,rfl,rfl,rfl,rfl,hab,rfl⟩ ?_
 rintro m Lc M Γc hs ⟨i,ai,acc,rfl,hi,rfl,rfl,rfl,hacc,hai,hn⟩
 refine CW.seq fun K10 hK10=>?_
 refine CW.region ?_
 refine RL.q (Y.lss rfl rfl) rfl ?_
 refine RL.nil ?_
 refine hK10 _ _ _ ?_
 refine CW.kp [0,2,3,4,6,8,25,26] rfl ?_
 refine CW.seq fun K11 hK11=>?_
 refine CW.ite rfl (fun h2=>?_) (fun h2=>?_)
 ·refine CW.skip ?_
  refine hK11 _ _ _ ?_
  refine CW.seq fun K12 hK12=>?_
  refine CW.block ?_
  refine CW.seq fun K13 hK13=>?_
  refine CW.region ?_
  refine RL.q (Y.move rfl) rfl ?_
  refine RL.q (Y.assign rfl) rfl ?_
  refine RL.nil ?_
  refine hK13 _ _ _ ?_
  refine CW.kp [0,2,3,4,6,8,9,25] rfl ?_
  refine CW.seq fun K14 hK14=>?_
  refine CW.region ?_
  first | refine RL.q (Y.loadOwnV rfl MM MM Q3 flat23) rfl ?_ | refine RL.q (Y.loadOwn rfl MM Q3 flat23) rfl ?_ | refine RL.loadOwnSl rfl rfl MM MM Q3 flat23 rfl fun a29 c29 hu29 hc29 hl29=>?_
  first | refine RL.q (Y.loadOwnV rfl MM MM Q3 flat3) rfl ?_ | refine RL.q (Y.loadOwn rfl MM Q3 flat3) rfl ?_ | refine RL.loadOwnSl rfl rfl MM MM Q3 flat3 rfl fun a30 c30 hu30 hc30 hl30=>?_
  refine RL.q (Y.slice ai b.length cb rfl ⟨_,rfl,rfl⟩ rfl rfl Q2 OM OM OM slice23) rfl ?_
  refine RL.addRd (Rd.dropB hb ai OM) ?_
  refine RL.callv rfl func24 rfl rfl (by exact getI_ok _ _ _ (b.drop ai) _ KK (fun x hx=>h256 x (List.mem_of_mem_drop hx))) ?_
  refine RL.q (Y.move rfl) rfl ?_
  refine RL.q (Y.extract rfl rfl) rfl ?_
  refine RL.q (Y.extract rfl rfl) rfl ?_
  refine RL.q (Y.extract rfl rfl) rfl ?_
  refine RL.q (Y.assign rfl) rfl ?_
  refine RL.q (Y.assign rfl) rfl ?_
  refine RL.q (Y.assign rfl) rfl ?_
  refine RL.nil ?_
  refine hK14 _ _ _ ?_
  refine CW.kp [0,2,3,4,6,8,9,10,11,12,25] rfl ?_
  refine CW.seq fun K15 hK15=>?_
  refine CW.seq fun K16 hK16=>?_
  refine CW.region ?_
  refine RL.q (Y.move rfl) rfl ?_
  refine RL.q (Y.neq rfl rfl) rfl ?_
  refine RL.nil ?_
  refine hK16 _ _ _ ?_
  refine CW.kp [0,2,3,4,6,8,9,10,11,12,25,37] rfl ?_
  refine CW.ite rfl (fun h3=>?_) (fun h3=>?_)
  ·refine CW.seq fun K17 hK17=>?_
   refine CW.region ?_
   refine RL.q (Y.build [_,_,_] rfl zero44 places44 Q3) rfl ?_
   refine RL.q (Y.move rfl) rfl ?_
   first | refine RL.storeRds 3 rfl rfl RP MM EL Q7 size44 ?_ | refine RL.storeAgg _ rfl rfl RP Q3 Q5 Q6 size44 ?_
   refine RL.q (Y.assign rfl) rfl ?_
   refine RL.nil ?_
   refine hK17 _ _ _ ?_
   refine CW.kp [6,7] rfl ?_
   refine CW.ret ?_
   have e : decF b (n+1) l a = (v0,(getI (b.drop ai)).2.2,l - 1,ai):=by rw [decF,if_neg hl1,nums_err OM hn h3,decN,if_pos h3]
   refine ⟨_,rfl,?_⟩
   exact CellAt.mk rfl MM (by first | rfl | assumption) agg44 (Turn.drop ⟨hs,by rw [e],_,by rw [e],by rw [e];exact (by rw [Val.enc_eq];exact (by repeat (first | exact RdL.nil _ | refine RdL.cons (by first | exact Rd.i _ | exact Rd.nilS | exact Rd.str _ | assumption) ?_)))⟩ SB)
  have hsz:=getI_size (Decidable.not_not.1 h3)
  rw [List.length_drop] at hsz
  have hcast : (ai : Int)+(getI (b.drop ai)).2.1 = ((ai+(getI (b.drop ai)).2.1.toNat : Nat) : Int):=Q0
  refine CW.skip ?_
  refine hK15 _ _ _ ?_
  refine CW.regionHP2 mix (x:=.own b8 74 _) (y:=.own ba 3 _) PK PK ?_
  refine HL.take 0 rfl KR KR KR rfl (Y.move rfl) rfl ?_
  refine HL.take 1 rfl KR KR KR rfl (Y.move rfl) rfl ?_
  refine HL.take 3 rfl KR KR KR rfl (Y.move rfl) rfl ?_
  refine HL.take 5 rfl KR KR KR rfl (Y.indexArr i rfl rfl rfl OM arr74) rfl ?_
  refine HL.step2 2 6 rfl rfl KR ?_ ?_
  ·first | refine RL.q (Y.loadOwnV rfl MM MM Q3 flat3) rfl ?_ | refine RL.q (Y.loadOwn rfl MM Q3 flat3) rfl ?_ | refine RL.loadOwnSl rfl rfl MM MM Q3 flat3 rfl fun a42 c42 hu42 hc42 hl42=>?_
   refine RL.nil ⟨keep_same SB,?_⟩
   refine HL.take 4 rfl KR KR KR rfl (Y.add rfl rfl OM) rfl ?_
   refine HL.step 6 rfl KR ?_
   refine RL.store (ints (pad3 (acc++[(getI (b.drop ai)).1]))) rfl rfl RP (pad3_store hacc OM) (pad3_idx hacc OM) rfl size3 ?_
   refine RL.nil ⟨keep_same SB,?_⟩
   refine HL.step 7 rfl KR ?_
   refine RL.store _ rfl rfl RP Q3 Q2 Q3 size3 ?_
   refine RL.nil ⟨keep_same SB,?_⟩
   refine HL.done KR ?_
   refine hK12 _ _ _ ?_
   refine CW.kp [0,2,3,4,6,8,25] rfl ?_
   refine CW.region ?_
   refine RL.q (Y.add rfl rfl OM) rfl ?_
   refine RL.q (Y.move rfl) rfl ?_
   refine RL.nil ?_
   refine ⟨3 - (i+1),[(25,_)],?_,(KP [25,0,2,3,4,6,8]),?_⟩
   · omega
   · exact Turn.drop ⟨[.own b8 74 (ints (pad3 (acc++[(getI (b.drop ai)).1]))),.own bl 3 [vint (l - 1)],.own ba 3 [vint ((ai : Int)+(getI (b.drop ai)).2.1)]],rfl,hs,i+1,ai+(getI (b.drop ai)).2.1.toNat,acc++[(getI (b.drop ai)).1],rfl,Q0,rfl,by rw [hcast],rfl,by simp [hacc],Q0,nums_step OM hn h3⟩ SB
  refine RL.store (ints (pad3 (acc++[(getI (b.drop ai)).1]))) rfl rfl RP (pad3_store hacc OM) (pad3_idx hacc OM) rfl size3 ?_
  refine RL.nil ⟨keep_same SB,?_⟩
  refine HL.step 2 rfl KR ?_
  first | refine RL.q (Y.loadOwnV rfl MM MM Q3 flat3) rfl ?_ | refine RL.q (Y.loadOwn rfl MM Q3 flat3) rfl ?_ | refine RL.loadOwnSl rfl rfl MM MM Q3 flat3 rfl fun a42 c42 hu42 hc42 hl42=>?_
  refine RL.nil ⟨keep_same SB,?_⟩
  refine HL.take 4 rfl KR KR KR rfl (Y.add rfl rfl OM) rfl ?_
  refine HL.step 7 rfl KR ?_
  refine RL.store _ rfl rfl RP Q3 Q2 Q3 size3 ?_
  refine RL.nil ⟨keep_same SB,?_⟩
  refine HL.done KR ?_
  refine hK12 _ _ _ ?_
  refine CW.kp [0,2,3,4,6,8,25] rfl ?_
  refine CW.region ?_
  refine RL.q (Y.add rfl rfl OM) rfl ?_
  refine RL.q (Y.move rfl) rfl ?_
  refine RL.nil ?_
  refine ⟨3 - (i+1),[(25,_)],?_,(KP [25,0,2,3,4,6,8]),?_⟩
  · omega
  · exact Turn.drop ⟨[.own b8 74 (ints (pad3 (acc++[(getI (b.drop ai)).1]))),.own bl 3 [vint (l - 1)],.own ba 3 [vint ((ai : Int)+(getI (b.drop ai)).2.1)]],rfl,hs,i+1,ai+(getI (b.drop ai)).2.1.toNat,acc++[(getI (b.drop ai)).1],rfl,Q0,rfl,by rw [hcast],rfl,by simp [hacc],Q0,nums_step OM hn h3⟩ SB
 refine CW.exit ?_
 refine hK8 _ _ _ ?_
 refine CW.seq fun K18 hK18=>?_
 refine CW.seq fun K19 hK19=>?_
 obtain rfl : i = 3:=Q0
 have hne:=nums_end (Nat.le_refl _) hn
 rw [pad3_full hacc]
 refine CW.region ?_
 refine RL.q (Y.indexArr 2 rfl rfl rfl Q1 arr74) rfl ?_
 refine RL.q (Y.loadOwn (v:=vint (acc.getD 2 0)) rfl MM (ints_get (getD3 hacc 2 Q1) rfl) flat3) rfl ?_
 refine RL.q (Y.lss rfl rfl) rfl ?_
 refine RL.nil ?_
 refine hK19 _ _ _ ?_
 refine CW.kp [0,4,6,8,49] rfl ?_
 refine CW.ite rfl (fun h4=>?_) (fun h4=>?_)
 ·refine CW.seq fun K20 hK20=>?_
  refine CW.region ?_
  refine RL.q (Y.build [_,_,_] rfl zero44 places44 Q3) rfl ?_
  first | refine RL.storeRds 3 rfl rfl RP MM EL Q7 size44 ?_ | refine RL.storeAgg _ rfl rfl RP Q3 Q5 Q6 size44 ?_
  refine RL.q (Y.assign rfl) rfl ?_
  refine RL.nil ?_
  refine hK20 _ _ _ ?_
  refine CW.kp [6,7] rfl ?_
  refine CW.ret ?_
  have e : decF b (n+1) l a = (v0,2,l - 1,ai):=by rw [decF,if_neg hl1,hne,decN,if_neg Q2,if_pos h4]
  refine ⟨_,rfl,?_⟩
  exact CellAt.mk rfl MM (by first | rfl | assumption) agg44 (Turn.drop ⟨Sub.refl _,by rw [e],_,by rw [e],by rw [e];exact (by rw [Val.enc_eq];exact (by repeat (first | exact RdL.nil _ | refine RdL.cons (by first | exact Rd.i _ | exact Rd.nilS | exact Rd.str _ | assumption) ?_)))⟩ SB)
 refine CW.skip ?_
 refine hK18 _ _ _ ?_
 refine CW.seq fun K21 hK21=>?_
 refine CW.region ?_
 refine RL.q (Y.indexArr 0 rfl rfl rfl Q1 arr74) rfl ?_
 refine RL.q (Y.loadOwn (v:=vint (acc.getD 0 0)) rfl MM (ints_get (getD3 hacc 0 Q1) rfl) flat3) rfl ?_
 refine RL.q (Y.indexArr 1 rfl rfl rfl Q1 arr74) rfl ?_
 refine RL.q (Y.loadOwn (v:=vint (acc.getD 1 0)) rfl MM (ints_get (getD3 hacc 1 Q1) rfl) flat3) rfl ?_
 refine RL.q (Y.build [_,_,_] rfl zero44 places44 Q3) rfl ?_
 refine RL.alloc _ zero44 rfl rfl fun b13=>?_
 first | refine RL.storeRds 3 rfl rfl RP MM EL Q7 size44 ?_ | refine RL.storeAgg _ rfl rfl RP Q3 Q5 Q6 size44 ?_
 refine RL.nil ?_
 refine hK21 _ _ _ ?_
 refine CW.kp [0,4,6,8,13] rfl ?_
 refine CW.seq fun K22 hK22=>?_
 refine CW.seq fun K23 hK23=>?_
 refine CW.region ?_
 refine RL.q (Y.indexArr 2 rfl rfl rfl Q1 arr74) rfl ?_
 refine RL.q (Y.loadOwn (v:=vint (acc.getD 2 0)) rfl MM (ints_get (getD3 hacc 2 Q1) rfl) flat3) rfl ?_
 refine RL.q (Y.move rfl) rfl ?_
 refine RL.nil ?_
 refine hK23 _ _ _ ?_
 refine CW.kp [0,4,6,13,57,58] rfl ?_
 refine CW.block ?_
 -- LOOP 2: live [0,4,6,13,57,58] changed [58]
 refine CW.kp [58,0,4,6,13,57] rfl ?_
 refine CW.front (x:=.own bb 23 [.slice ab b.length cb]) PK ?_
 refine CW.front (x:=.own bf 73 [(.func (.func 23) #[] #[.pointer (some (adr (some ⟨bl,0,none⟩) 0)),.pointer (some (adr (some ⟨bb,0,none⟩) 0)),.pointer (some (adr (some ⟨ba,0,none⟩) 0)),.pointer (some (adr (some ⟨bf,0,none⟩) 0))])]) PK ?_
 refine CW.front (x:=.own ba 3 [vint (ai : Nat)]) PK ?_
 refine CW.front (x:=.own bl 3 [vint (l - 1)]) PK ?_
 refine CW.front (x:=.own b13 44 [vint (acc.getD 0 0),vint (acc.getD 1 0),.slice none 0 0]) PK ?_
 refine CW.accNil 44 3 ?_
 refine CW.addRds (RdL.nil _) ?_
 refine CW.loopF (fun m Lc M1 Γc=>∃ (k : Nat) (dn : List Val) (lk : Int) (ak : Nat) (ua : Option Addr) (ca : Nat) (us : List Value),m = (acc.getD 2 0).toNat - k/\k<=(acc.getD 2 0).toNat/\Lc = [(58,vint k)]/\Γc = [.rds (dn.flatMap Val.enc) us,.acc (.slice ua k ca) 44 3 k us,.own b13 44 [vint (acc.getD 0 0),vint (acc.getD 1 0),.slice ua k ca],.own bl 3 [vint lk],.own ba 3 [vint (ak : Nat)]]/\0<=lk/\lk+k<=256/\ak<=b.length/\dn.length = k/\decL (decF b n) (acc.getD 2 0).toNat (l - 1) ai = dJoin dn (decL (decF b n) ((acc.getD 2 0).toNat - k) lk ak)) (acc.getD 2 0).toNat [(58,_)] [_,_,_,_,_] rfl rfl ⟨0,[],l - 1,ai,none,0,[],rfl,Nat.zero_le _,rfl,rfl,Q0,Q0,hai,rfl,dJoin_nil _ _ _ _⟩ ?_
 rintro m Lc M1 Γc hs ⟨k,dn,lk,ak,ua,ca,us,rfl,hk,rfl,rfl,hlk0,hlk,hak,hdn,hz⟩
 refine CW.seq fun K24 hK24=>?_
 refine CW.region ?_
 refine RL.q (Y.lss rfl rfl) rfl ?_
 refine RL.nil ?_
 refine hK24 _ _ _ ?_
 refine CW.kp [0,4,6,13,57,58,59] rfl ?_
 refine CW.seq fun K25 hK25=>?_
 refine CW.ite rfl (fun h5=>?_) (fun h5=>?_)
 ·have hka : k < (acc.getD 2 0).toNat:=Q0
  refine CW.skip ?_
  refine hK25 _ _ _ ?_
  refine CW.seq fun K26 hK26=>?_
  refine CW.block ?_
  refine CW.seq fun K27 hK27=>?_
  refine CW.region ?_
  first | refine RL.q (Y.loadOwnV rfl MM MM Q3 flat73) rfl ?_ | refine RL.q (Y.loadOwn rfl MM Q3 flat73) rfl ?_ | refine RL.loadOwnSl rfl rfl MM MM Q3 flat73 rfl fun a61 c61 hu61 hc61 hl61=>?_
  refine RL.q (Y.move rfl) rfl ?_
  refine RL.q (Y.add rfl rfl OM) rfl ?_
  refine RL.callf rfl func23 rfl rfl rfl (CallOk.pick (x:=.own bb 23 [.slice ab b.length cb]) PK (CallOk.pick (x:=.own bf 73 [(.func (.func 23) #[] #[.pointer (some (adr (some ⟨bl,0,none⟩) 0)),.pointer (some (adr (some ⟨bb,0,none⟩) 0)),.pointer (some (adr (some ⟨ba,0,none⟩) 0)),.pointer (some (adr (some ⟨bf,0,none⟩) 0))])]) PK (CallOk.pick (x:=.own ba 3 [vint (ak : Nat)]) PK (CallOk.pick (x:=.own bl 3 [vint lk]) PK (ih n OM _ _ _ b ab cb (d+1) lk ak bl ba bf bb OM OM hlk0 OM hak h256 (Rd.mono hs _ _ hb)))))) ?_
  rintro v64 M64 _ ⟨hs64,rfl,us64,rfl,hr64⟩
  refine RL.addRds hr64 ?_
  have hul64 : us64.length = 3:=hr64.1.trans (Val.enc_len _)
  refine RL.q (Y.move rfl) rfl ?_
  refine RL.q (Y.extract rfl rfl) rfl ?_
  refine RL.q (Y.extract rfl rfl) rfl ?_
  refine RL.alloc _ zero44 rfl rfl fun b14=>?_
  first | refine RL.storeRds 3 rfl rfl RP MM EL Q7 size44 ?_ | refine RL.storeAgg _ rfl rfl RP Q3 Q5 Q6 size44 ?_
  refine RL.q (Y.assign rfl) rfl ?_
  refine RL.nil ?_
  refine hK27 _ _ _ ?_
  refine CW.kp [0,4,6,13,14,15,57,58] rfl ?_
  refine CW.seq fun K28 hK28=>?_
  refine CW.seq fun K29 hK29=>?_
  refine CW.region ?_
  refine RL.q (Y.move rfl) rfl ?_
  refine RL.q (Y.neq rfl rfl) rfl ?_
  refine RL.nil ?_
  refine hK29 _ _ _ ?_
  refine CW.kp [0,4,6,13,14,15,57,58,68] rfl ?_
  refine CW.ite rfl (fun h6=>?_) (fun h6=>?_)
  ·refine CW.seq fun K30 hK30=>?_
   refine CW.region ?_
   refine RL.q (Y.build [_,_,_] rfl zero44 places44 Q3) rfl ?_
   refine RL.q (Y.move rfl) rfl ?_
   first | refine RL.storeRds 3 rfl rfl RP MM EL Q7 size44 ?_ | refine RL.storeAgg _ rfl rfl RP Q3 Q5 Q6 size44 ?_
   refine RL.q (Y.assign rfl) rfl ?_
   refine RL.nil ?_
   refine hK30 _ _ _ ?_
   refine CW.kp [6,7] rfl ?_
   refine CW.ret ?_
   have e : decF b (n+1) l a = (v0,(decF b n lk ak).2.1,(decF b n lk ak).2.2.1,(decF b n lk ak).2.2.2):=by
     rw [decF,if_neg hl1,hne,decN,if_neg Q2,if_neg h4]
     simp only
     rw [dJoin_err OM hz h6,dNode,if_pos h6]
   refine ⟨_,rfl,?_⟩
   exact CellAt.mk rfl MM (by first | rfl | assumption) agg44 (Turn.drop ⟨hs.trans hs64,by rw [e],_,by rw [e],by rw [e];exact (by rw [Val.enc_eq];exact (by repeat (first | exact RdL.nil _ | refine RdL.cons (by first | exact Rd.i _ | exact Rd.nilS | exact Rd.str _ | assumption) ?_)))⟩ SB)
  refine CW.skip ?_
  refine hK28 _ _ _ ?_
  refine CW.region ?_
  refine RL.q (Y.field rfl field44_2) rfl ?_
  first | refine RL.q (Y.loadOwnV rfl MM MM Q3 flat42) rfl ?_ | refine RL.q (Y.loadOwn rfl MM Q3 flat42) rfl ?_ | refine RL.loadOwnSl rfl rfl MM MM Q3 flat42 rfl fun a72 c72 hu72 hc72 hl72=>?_
  first | refine RL.q (Y.loadAllR rfl MM MM EL agg44) rfl ?_ | refine RL.q (Y.loadAll rfl MM Q3 agg44) rfl ?_ | refine RL.loadPart rfl rfl MM MM Q3 Q3 agg44 rfl fun us73 hul73 hur73=>?_
  refine RL.buildSlice us64 elem42 rfl Q1 (fill1 rfl hul64) rfl fun b74=>?_
  refine RL.append elem42 rfl rfl PK (SrcOk.own (sz:=3) (m:=1) MM (by simp [hul64]) hr64.one) OM (by unfold lim;omega) rfl fun a75 c75 hc75=>?_
  refine RL.q (Y.field rfl field44_2) rfl ?_
  refine RL.store _ rfl rfl RP Q3 Q2 Q3 size42 ?_
  refine RL.nil ?_
  refine hK26 _ _ _ ?_
  refine CW.kp [0,4,6,13,57,58] rfl ?_
  refine CW.region ?_
  refine RL.q (Y.add rfl rfl OM) rfl ?_
  refine RL.q (Y.move rfl) rfl ?_
  refine RL.nil ?_
  refine ⟨(acc.getD 2 0).toNat - (k+1),[(58,_)],?_,(KP [58,0,4,6,13,57]),?_⟩
  · omega
  · refine Turn.kn (Kn.rds (ds:=dn.flatMap Val.enc) (us:=us) MM) fun hrd=>?_
    refine Turn.front (x:=.own b13 44 _) PK ?_
    refine Turn.front (x:=.acc (.slice a75 (k+1) c75) 44 3 (k+1) (us++us64)) PK ?_
    refine Turn.addRds (hrd.append hr64) ?_
    have hlf:=decF_left b n lk ak hak
    have hlf2:=hlf.2 (Decidable.not_not.1 h6)
    exact Turn.drop ⟨[_,_,_,_,_],rfl,hs.trans hs64,k+1,dn++[(decF b n lk ak).1],(decF b n lk ak).2.2.1,(decF b n lk ak).2.2.2,a75,c75,us++us64,rfl,Q0,rfl,by rw [snoc_flat] <;> rfl,hlf2.1,by have:=hlf2.2;omega,hlf.1,by simp [hdn],dJoin_step OM hz h6⟩ SB
 refine CW.exit ?_
 refine hK22 _ _ _ ?_
 refine CW.seq fun K31 hK31=>?_
 refine CW.region ?_
 first | refine RL.q (Y.loadAllR rfl MM MM EL agg44) rfl ?_ | refine RL.q (Y.loadAll rfl MM Q3 agg44) rfl ?_ | refine RL.loadPart rfl rfl MM MM Q3 Q3 agg44 rfl fun us78 hul78 hur78=>?_
 first | refine RL.storeRds 3 rfl rfl RP MM EL Q7 size44 ?_ | refine RL.storeAgg _ rfl rfl RP Q3 Q5 Q6 size44 ?_
 refine RL.q (Y.assign rfl) rfl ?_
 refine RL.nil ?_
 refine hK31 _ _ _ ?_
 refine CW.kp [6,7] rfl ?_
 refine CW.ret ?_
 have e : decF b (n+1) l a = (.mk (acc.getD 0 0) (acc.getD 1 0) dn,0,lk,ak):=by
   rw [decF,if_neg hl1,hne,decN,if_neg Q2,if_neg h4]
   simp only
   rw [dJoin_end OM hz,dNode,if_neg Q2]
 refine ⟨_,rfl,?_⟩
 refine CellAt.mk rfl MM (by first | rfl | assumption) agg44 (Turn.kn (Kn.rds (ds:=dn.flatMap Val.enc) (us:=us) MM) fun hrd=>?_)
 exact Turn.sealAcc (Γ:=.own bl 3 [vint lk]::.own ba 3 [vint (ak : Nat)]::.own bf 73 [(.func (.func 23) #[] #[.pointer (some (adr (some ⟨bl,0,none⟩) 0)),.pointer (some (adr (some ⟨bb,0,none⟩) 0)),.pointer (some (adr (some ⟨ba,0,none⟩) 0)),.pointer (some (adr (some ⟨bf,0,none⟩) 0))])]::.own bb 23 [.slice ab b.length cb]::Γ) (u:=.slice ua k ca) PK hrd (by unfold lim;omega) SB fun M2 hs2 hr2=>⟨hs.trans hs2,by rw [e],_,by rw [e],by rw [e,Val.enc_eq];exact RdL.cons (Rd.i _) (RdL.cons (Rd.i _) (RdL.cons (by simpa [Val.kids,hdn] using hr2) (RdL.nil _)))⟩
theorem decode_ok (w0 : World) (M : Mem) (Γ : List As) (b : List Nat) (ub : Value)  (hb : Kn w0 M Γ (Rd M (dbytes b) ub)) (h256 : ∀ x∈b,x < 256) :
   CallOk Tryd.prog w0 M Γ 8 #[ub] (Gives M Γ fun M' v=>∃ us,v = .tuple #[.agg us.toArray,vint (decV b).2.1,vint (decV b).2.2]/\RdL M' (decV b).1.enc us):=by
 refine CallOk.kn hb fun hb=>?_
 obtain ⟨ab,cb,rfl,hcb,hlimb,hlenb⟩:=hb.slice
 refine enterCell3 (f:=8) Tryd.func8 rfl Tryd.ntmps8 rfl rfl fun w1 hw1=>?_
 refine CW.addRd hb ?_
 refine CW.seq fun K1 hK1=>?_
 refine CW.region ?_
 refine RL.box _ rfl rfl rfl fun b1=>?_
 refine RL.alloc _ zero44 rfl rfl fun b2=>?_
 refine RL.q (Y.assign rfl) rfl ?_
 refine RL.q (Y.assign rfl) rfl ?_
 refine RL.nil ?_
 refine hK1 _ _ _ ?_
 refine CW.kp [1,2] rfl ?_
 refine CW.seq fun K2 hK2=>?_
 refine CW.region ?_
 refine RL.alloc _ zero3 rfl rfl fun b5=>?_
 refine RL.alloc _ zero3 rfl rfl fun b6=>?_
 refine RL.store _ rfl rfl RP Q3 Q2 Q3 size3 ?_
 refine RL.store _ rfl rfl RP Q3 Q2 Q3 size3 ?_
 refine RL.nil ?_
 refine hK2 _ _ _ ?_
 refine CW.kp [1,2,5,6] rfl ?_
 refine CW.seq fun K3 hK3=>?_
 refine CW.region ?_
 refine RL.alloc _ zero73 rfl rfl fun b7=>?_
 refine RL.nil ?_
 refine hK3 _ _ _ ?_
 refine CW.kp [1,2,5,6,7] rfl ?_
 refine CW.seq fun K4 hK4=>?_
 refine CW.region ?_
 refine RL.q (Y.makeFunc rfl rfl) rfl ?_
 refine RL.store _ rfl rfl RP Q3 Q2 Q3 size73 ?_
 refine RL.nil ?_
 refine hK4 _ _ _ ?_
 refine CW.kp [2,6,7] rfl ?_
 refine CW.seq fun K5 hK5=>?_
 refine CW.region ?_
 first | refine RL.q (Y.loadOwnV rfl MM MM Q3 flat73) rfl ?_ | refine RL.q (Y.loadOwn rfl MM Q3 flat73) rfl ?_ | refine RL.loadOwnSl rfl rfl MM MM Q3 flat73 rfl fun a12 c12 hu12 hc12 hl12=>?_
 refine RL.callf rfl func23 rfl rfl rfl (CallOk.pick (x:=.own b1 23 [.slice ab b.length cb]) PK (CallOk.pick (x:=.own b7 73 [(.func (.func 23) #[] #[.pointer (some (adr (some ⟨b5,0,none⟩) 0)),.pointer (some (adr (some ⟨b1,0,none⟩) 0)),.pointer (some (adr (some ⟨b6,0,none⟩) 0)),.pointer (some (adr (some ⟨b7,0,none⟩) 0))])]) PK (CallOk.pick (x:=.own b6 3 [vint 0]) PK (CallOk.pick (x:=.own b5 3 [vint 256]) PK (dec1_ok 24 _ _ _ b ab cb 1 256 0 b5 b6 b7 b1 rfl OM OM OM OM h256 hb))))) ?_
 rintro v13 M13 _ ⟨hs13,rfl,us13,rfl,hr13⟩
 refine RL.addRds hr13 ?_
 have hul13 : us13.length = 3:=hr13.1.trans (Val.enc_len _)
 refine RL.q (Y.move rfl) rfl ?_
 refine RL.q (Y.extract rfl rfl) rfl ?_
 refine RL.q (Y.extract rfl rfl) rfl ?_
 refine RL.alloc _ zero44 rfl rfl fun b8=>?_
 first | refine RL.storeRds 3 rfl rfl RP MM EL Q7 size44 ?_ | refine RL.storeAgg _ rfl rfl RP Q3 Q5 Q6 size44 ?_
 refine RL.q (Y.assign rfl) rfl ?_
 refine RL.nil ?_
 refine hK5 _ _ _ ?_
 refine CW.kp [2,6,8,9] rfl ?_
 refine CW.seq fun K6 hK6=>?_
 refine CW.seq fun K7 hK7=>?_
 refine CW.region ?_
 refine RL.q (Y.move rfl) rfl ?_
 refine RL.q (Y.neq rfl rfl) rfl ?_
 refine RL.nil ?_
 refine hK7 _ _ _ ?_
 refine CW.kp [2,6,8,9,17] rfl ?_
 refine CW.ite rfl (fun h1=>?_) (fun h1=>?_)
 ·refine CW.seq fun K8 hK8=>?_
  refine CW.region ?_
  refine RL.q (Y.build [_,_,_] rfl zero44 places44 Q3) rfl ?_
  refine RL.q (Y.move rfl) rfl ?_
  first | refine RL.storeRds 3 rfl rfl RP MM EL Q7 size44 ?_ | refine RL.storeAgg _ rfl rfl RP Q3 Q5 Q6 size44 ?_
  refine RL.q (Y.assign rfl) rfl ?_
  refine RL.q (Y.assign rfl) rfl ?_
  refine RL.nil ?_
  refine hK8 _ _ _ ?_
  refine CW.kp [2,3,4] rfl ?_
  refine CW.ret ?_
  have e : decV b = (v0,0,(decF b 24 256 0).2.1):=by rw [decV,if_pos h1]
  refine ⟨_,_,rfl,rfl,?_⟩
  exact CellAt.mk rfl MM (by first | rfl | assumption) agg44 (Turn.drop ⟨hs13,rfl,_,by rw [e],by rw [e];exact (by rw [Val.enc_eq];exact (by repeat (first | exact RdL.nil _ | refine RdL.cons (by first | exact Rd.i _ | exact Rd.nilS | exact Rd.str _ | assumption) ?_)))⟩ SB)
 refine CW.skip ?_
 refine hK6 _ _ _ ?_
 refine CW.seq fun K9 hK9=>?_
 refine CW.regionHP mix (x:=.own b2 44 _) PK ?_
 first | refine HL.take 0 rfl KR KR KR rfl (Y.loadAllR rfl MM MM EL agg44) rfl ?_ | refine HL.take 0 rfl KR KR KR rfl (Y.loadAll rfl MM Q3 agg44) rfl ?_ | refine HL.loadPart 0 rfl KR KR KR rfl rfl MM MM Q3 Q3 agg44 rfl fun us20 hul20 hur20=>?_
 first | refine HL.take 1 rfl KR KR KR rfl (Y.loadOwnV rfl MM MM Q3 flat3) rfl ?_ | refine HL.take 1 rfl KR KR KR rfl (Y.loadOwn rfl MM Q3 flat3) rfl ?_ | refine HL.loadOwnSl 1 rfl KR KR KR rfl rfl MM MM Q3 flat3 rfl fun a21 c21 hu21 hc21 hl21=>?_
 refine HL.step 2 rfl KR ?_
 first | refine RL.storeRds 3 rfl rfl RP MM EL Q7 size44 ?_ | refine RL.storeAgg _ rfl rfl RP Q3 Q5 Q6 size44 ?_
 refine RL.nil ⟨keep_same SB,?_⟩
 refine HL.take 3 rfl KR KR KR rfl (Y.assign rfl) rfl ?_
 refine HL.take 4 rfl KR KR KR rfl (Y.assign rfl) rfl ?_
 refine HL.done KR ?_
 refine hK9 _ _ _ ?_
 refine CW.kp [2,3,4] rfl ?_
 refine CW.ret ?_
 have e : decV b = ((decF b 24 256 0).1,((decF b 24 256 0).2.2.2 : Int),0):=by rw [decV,if_neg h1]
 refine ⟨_,_,rfl,rfl,?_⟩
 exact CellAt.mk rfl MM (by first | rfl | assumption) agg44 (Turn.drop ⟨hs13,rfl,_,by rw [e],by rw [e];exact hr13⟩ SB)
theorem introw_ok (w0 : World) (M : Mem) (Γ : List As) (n : Int)   (hn : InI n) :
   CallOk Tryd.prog w0 M Γ 22 #[vint n] (fun u M' Γ'=>∃ a c,u = .slice a (encI n).length c/\M' = M/\Γ' = .acc (.slice a (encI n).length c) 5 1 (encI n).length (byteV (encI n))::Γ):=by
 have hml:=mag_lt hn
 refine enter (f:=22) Tryd.func22 rfl Tryd.ntmps22 rfl rfl fun w1 hw1=>?_
 refine CW.seq fun K1 hK1=>?_
 refine CW.region ?_
 refine RL.q (Y.assign rfl) rfl ?_
 refine RL.nil ?_
 refine hK1 _ _ _ ?_
 refine CW.kp [0] rfl ?_
 refine CW.scope ?_
 refine CW.seq fun K2 hK2=>?_
 refine CW.region ?_
 refine RL.q (Y.move rfl) rfl ?_
 refine RL.q (Y.convTo (r:=(((n % 18446744073709551616).toNat : Nat) : Int)) KR KR rfl (by rw [wrap_u64'];omega)) rfl ?_
 refine RL.q (Y.assign rfl) rfl ?_
 refine RL.q (v:=vbyte 0) (Y.assign rfl) rfl ?_
 refine RL.nil ?_
 refine hK2 _ _ _ ?_
 refine CW.kp [0,3,4] rfl ?_
 refine CW.seq fun K3 hK3=>?_
 refine CW.seq fun K4 hK4=>?_
 refine CW.region ?_
 refine RL.q (Y.move rfl) rfl ?_
 refine RL.q (Y.lss rfl rfl) rfl ?_
 refine RL.nil ?_
 refine hK4 _ _ _ ?_
 refine CW.kp [3,4,11] rfl ?_
 refine CW.ite rfl (fun h1=>?_) (fun h1=>?_)
 ·refine CW.region ?_
  refine RL.q (Y.move rfl) rfl ?_
  refine RL.q (Y.not64 rfl OM) rfl ?_
  refine RL.q (Y.assign rfl) rfl ?_
  refine RL.q (v:=vbyte 255) (Y.assign rfl) rfl ?_
  refine RL.nil ?_
  refine hK3 _ _ _ ?_
  refine CW.kp [3,4] rfl ?_
  refine CW.keep (L':=[(3,vword (mag n)),(4,vbyte (sgn n))]) (Keep.cons 3 (by rw [<-mag_ng hn h1];rfl) (Keep.cons 4 (by rw [show sgn n = 255 from if_pos h1];rfl) (Keep.nil _))) ?_
  refine CW.seq fun K5 hK5=>?_
  refine CW.region ?_
  refine RL.q (Y.assign rfl) rfl ?_
  refine RL.nil ?_
  refine hK5 _ _ _ ?_
  refine CW.kp [3,4,5] rfl ?_
  refine CW.seq fun K6 hK6=>?_
  refine CW.label ?_
  refine hK6 _ _ _ ?_
  refine CW.seq fun K7 hK7=>?_
  refine CW.block ?_
  -- LOOP 1: live [3,4,5] changed [5]
  refine CW.kp [5,3,4] rfl ?_
  refine CW.loopF (fun j Lc M1 Γc=>j<=8/\Lc = [(5,vint j)]/\Γc = []/\M1 = M/\mag n < 256 ^ j) 8 [(5,_)] [] rfl rfl ⟨Q0,rfl,rfl,rfl,Q0⟩ ?_
  rintro j Lc M Γc hs ⟨hj,rfl,rfl,rfl,hF⟩
  refine CW.seq fun K8 hK8=>?_
  refine CW.seq fun K9 hK9=>?_
  refine CW.region ?_
  refine RL.q (Y.move rfl) rfl ?_
  refine RL.q (Y.gtr rfl rfl) rfl ?_
  refine RL.nil ?_
  refine hK9 _ _ _ ?_
  refine CW.kp [3,4,5,15] rfl ?_
  refine CW.ite rfl (fun h2=>?_) (fun h2=>?_)
  ·refine CW.skip ?_
   refine hK8 _ _ _ ?_
   refine CW.block ?_
   refine CW.seq fun K10 hK10=>?_
   refine CW.seq fun K11 hK11=>?_
   refine CW.region ?_
   refine RL.q (Y.move rfl) rfl ?_
   refine RL.q (Y.move rfl) rfl ?_
   refine RL.q (Y.sub rfl rfl OM) rfl ?_
   refine RL.q (Y.mul rfl rfl OM) rfl ?_
   refine RL.q (Y.shrN (8 * (j - 1)) rfl rfl OM OM) rfl ?_
   refine RL.q (Y.gtrK rfl rfl) rfl ?_
   refine RL.nil ?_
   refine hK11 _ _ _ ?_
   refine CW.kp [3,4,5,21] rfl ?_
   refine CW.ite rfl (fun h3=>?_) (fun h3=>?_)
   ·refine CW.exit ?_
    refine hK7 _ _ _ ?_
    refine CW.seq fun K12 hK12=>?_
    have hk : nd (mag n) = j:=nd_eq hF (by first | exact .inl OM | exact .inr OM)
    refine CW.region ?_
    refine RL.q (Y.move rfl) rfl ?_
    refine RL.q (Y.add rfl rfl OM) rfl ?_
    refine RL.q (Y.convTo (r:=((128+j : Nat) : Int)) KR KR rfl (by rw [wrap_u8];omega)) rfl ?_
    refine RL.q (Y.move rfl) rfl ?_
    refine RL.q (Y.xor8 rfl rfl OM (sgn_or n)) rfl ?_
    refine RL.buildSlice [vbyte (flip8 (sgn n) (128+j))] elem23 rfl Q1 (fill1 rfl rfl) rfl fun b29=>?_
    refine RL.ownAcc (k:=1) (sz:=1) PK rfl Q1 ?_
    refine RL.q (Y.assign rfl) rfl ?_
    refine RL.nil ?_
    refine hK12 _ _ _ ?_
    refine CW.kp [3,4,5,6] rfl ?_
    refine CW.seq fun K13 hK13=>?_
    refine CW.seq fun K14 hK14=>?_
    refine CW.region ?_
    refine RL.q (Y.move rfl) rfl ?_
    refine RL.q (Y.sub rfl rfl OM) rfl ?_
    refine RL.q (Y.assign rfl) rfl ?_
    refine RL.nil ?_
    refine hK14 _ _ _ ?_
    refine CW.kp [3,4,6,7] rfl ?_
    refine CW.block ?_
    -- LOOP 2: live [3,4,6,7] changed [6,7]
    refine CW.kp [6,7,3,4] rfl ?_
    refine CW.loopF (fun m Lc M1 Γc=>∃ (r : Nat) (ua : Option Addr) (ca : Nat),m = j - r/\r<=j/\Lc = [(6,.slice ua (1+r) ca),(7,vint ((j : Int) - 1 - r))]/\Γc = [.acc (.slice ua (1+r) ca) 5 1 (1+r) (byteV (encP n j r))]/\M1 = M) j [(6,_),(7,_)] [_] rfl rfl ⟨0,some ⟨b29,0,none⟩,1,rfl,Nat.zero_le _,Q2,rfl,rfl⟩ ?_
    rintro m Lc M Γc hs2 ⟨r,ua,ca,rfl,hr,rfl,rfl,rfl⟩
    refine CW.seq fun K15 hK15=>?_
    refine CW.seq fun K16 hK16=>?_
    refine CW.region ?_
    refine RL.q (Y.move rfl) rfl ?_
    refine RL.q (Y.geq rfl rfl) rfl ?_
    refine RL.nil ?_
    refine hK16 _ _ _ ?_
    refine CW.kp [3,4,6,7,33] rfl ?_
    refine CW.ite rfl (fun h4=>?_) (fun h4=>?_)
    ·have hrj : r < j:=Q0
     refine CW.skip ?_
     refine hK15 _ _ _ ?_
     refine CW.seq fun K17 hK17=>?_
     refine CW.block ?_
     refine CW.region ?_
     refine RL.q (Y.move rfl) rfl ?_
     refine RL.q (Y.move rfl) rfl ?_
     refine RL.q (Y.move rfl) rfl ?_
     refine RL.q (Y.mul rfl rfl OM) rfl ?_
     refine RL.q (Y.shrN (8 * (j - 1 - r)) rfl rfl OM OM) rfl ?_
     refine RL.q (Y.convTo (r:=((mag n / 2 ^ (8 * (j - 1 - r)) % 256 : Nat) : Int)) KR KR rfl (by rw [wrap_u8];omega)) rfl ?_
     refine RL.q (Y.move rfl) rfl ?_
     refine RL.q (Y.xor8 rfl rfl OM (sgn_or n)) rfl ?_
     refine RL.buildSlice [vbyte (digitJ n j r)] elem23 rfl Q1 (fill1 rfl rfl) rfl fun b44=>?_
     refine RL.append elem23 rfl rfl PK (SrcOk.own (sz:=1) (m:=1) MM rfl (bytes_one [digitJ n j r])) OM (by unfold lim;omega) rfl fun a45 c45 hc45=>?_
     refine RL.q (Y.assign rfl) rfl ?_
     refine RL.nil ?_
     refine hK17 _ _ _ ?_
     refine CW.kp [3,4,6,7] rfl ?_
     refine CW.region ?_
     refine RL.q (Y.move rfl) rfl ?_
     refine RL.q (Y.sub rfl rfl OM) rfl ?_
     refine RL.q (Y.assign rfl) rfl ?_
     refine RL.nil ?_
     refine ⟨j - (r+1),[(6,_),(7,_)],?_,(KP [6,7,3,4]),?_⟩
     · omega
     · exact Turn.drop ⟨[.acc (.slice a45 (1+r+1) c45) 5 1 (1+r+1) (byteV (encP n j r)++byteV [digitJ n j r])],rfl,hs2,r+1,a45,c45,rfl,Q0,by rw [show ((j : Int) - 1 - r - 1) = (j : Int) - 1 - ((r+1 : Nat) : Int) from by omega] <;> rfl,by rw [show byteV (encP n j (r+1)) = byteV (encP n j r)++byteV [digitJ n j r] from by rw [encP_succ];exact List.map_append] <;> rfl,rfl⟩ SB
    refine CW.exit ?_
    refine hK13 _ _ _ ?_
    refine CW.seq fun K18 hK18=>?_
    refine CW.region ?_
    refine RL.q (Y.move rfl) rfl ?_
    refine RL.q (Y.assign rfl) rfl ?_
    refine RL.nil ?_
    refine hK18 _ _ _ ?_
    refine CW.kp [2] rfl ?_
    refine CW.ret ?_
    obtain rfl : r = j:=Q0
    have he : encI n = encP n r r:=by rw [encI,hk]
    exact ⟨_,rfl,Turn.drop ⟨_,_,by rw [he,encP_len],rfl,by rw [he,encP_len]⟩ SB⟩
   refine CW.skip ?_
   refine hK10 _ _ _ ?_
   refine CW.region ?_
   refine RL.q (Y.move rfl) rfl ?_
   refine RL.q (Y.sub rfl rfl OM) rfl ?_
   refine RL.q (Y.assign rfl) rfl ?_
   refine RL.nil ?_
   refine ⟨j - 1,[(5,_)],?_,(KP [5,3,4]),?_⟩
   · omega
   · exact Turn.drop ⟨[],rfl,hs,Q0,by rw [show ((j : Int) - 1) = ((j - 1 : Nat) : Int) from by omega],rfl,rfl,lt_pow_pred OM OM⟩ SB
  refine CW.exit ?_
  refine hK7 _ _ _ ?_
  refine CW.seq fun K19 hK19=>?_
  have hk : nd (mag n) = j:=nd_eq hF (by first | exact .inl OM | exact .inr OM)
  refine CW.region ?_
  refine RL.q (Y.move rfl) rfl ?_
  refine RL.q (Y.add rfl rfl OM) rfl ?_
  refine RL.q (Y.convTo (r:=((128+j : Nat) : Int)) KR KR rfl (by rw [wrap_u8];omega)) rfl ?_
  refine RL.q (Y.move rfl) rfl ?_
  refine RL.q (Y.xor8 rfl rfl OM (sgn_or n)) rfl ?_
  refine RL.buildSlice [vbyte (flip8 (sgn n) (128+j))] elem23 rfl Q1 (fill1 rfl rfl) rfl fun b29=>?_
  refine RL.ownAcc (k:=1) (sz:=1) PK rfl Q1 ?_
  refine RL.q (Y.assign rfl) rfl ?_
  refine RL.nil ?_
  refine hK19 _ _ _ ?_
  refine CW.kp [3,4,5,6] rfl ?_
  refine CW.seq fun K20 hK20=>?_
  refine CW.seq fun K21 hK21=>?_
  refine CW.region ?_
  refine RL.q (Y.move rfl) rfl ?_
  refine RL.q (Y.sub rfl rfl OM) rfl ?_
  refine RL.q (Y.assign rfl) rfl ?_
  refine RL.nil ?_
  refine hK21 _ _ _ ?_
  refine CW.kp [3,4,6,7] rfl ?_
  refine CW.block ?_
  -- LOOP 2: live [3,4,6,7] changed [6,7]
  refine CW.kp [6,7,3,4] rfl ?_
  refine CW.loopF (fun m Lc M1 Γc=>∃ (r : Nat) (ua : Option Addr) (ca : Nat),m = j - r/\r<=j/\Lc = [(6,.slice ua (1+r) ca),(7,vint ((j : Int) - 1 - r))]/\Γc = [.acc (.slice ua (1+r) ca) 5 1 (1+r) (byteV (encP n j r))]/\M1 = M) j [(6,_),(7,_)] [_] rfl rfl ⟨0,some ⟨b29,0,none⟩,1,rfl,Nat.zero_le _,Q2,rfl,rfl⟩ ?_
  rintro m Lc M Γc hs2 ⟨r,ua,ca,rfl,hr,rfl,rfl,rfl⟩
  refine CW.seq fun K22 hK22=>?_
  refine CW.seq fun K23 hK23=>?_
  refine CW.region ?_
  refine RL.q (Y.move rfl) rfl ?_
  refine RL.q (Y.geq rfl rfl) rfl ?_
  refine RL.nil ?_
  refine hK23 _ _ _ ?_
  refine CW.kp [3,4,6,7,33] rfl ?_
  refine CW.ite rfl (fun h4=>?_) (fun h4=>?_)
  ·have hrj : r < j:=Q0
   refine CW.skip ?_
   refine hK22 _ _ _ ?_
   refine CW.seq fun K24 hK24=>?_
   refine CW.block ?_
   refine CW.region ?_
   refine RL.q (Y.move rfl) rfl ?_
   refine RL.q (Y.move rfl) rfl ?_
   refine RL.q (Y.move rfl) rfl ?_
   refine RL.q (Y.mul rfl rfl OM) rfl ?_
   refine RL.q (Y.shrN (8 * (j - 1 - r)) rfl rfl OM OM) rfl ?_
   refine RL.q (Y.convTo (r:=((mag n / 2 ^ (8 * (j - 1 - r)) % 256 : Nat) : Int)) KR KR rfl (by rw [wrap_u8];omega)) rfl ?_
   refine RL.q (Y.move rfl) rfl ?_
   refine RL.q (Y.xor8 rfl rfl OM (sgn_or n)) rfl ?_
   refine RL.buildSlice [vbyte (digitJ n j r)] elem23 rfl Q1 (fill1 rfl rfl) rfl fun b44=>?_
   refine RL.append elem23 rfl rfl PK (SrcOk.own (sz:=1) (m:=1) MM rfl (bytes_one [digitJ n j r])) OM (by unfold lim;omega) rfl fun a45 c45 hc45=>?_
   refine RL.q (Y.assign rfl) rfl ?_
   refine RL.nil ?_
   refine hK24 _ _ _ ?_
   refine CW.kp [3,4,6,7] rfl ?_
   refine CW.region ?_
   refine RL.q (Y.move rfl) rfl ?_
   refine RL.q (Y.sub rfl rfl OM) rfl ?_
   refine RL.q (Y.assign rfl) rfl ?_
   refine RL.nil ?_
   refine ⟨j - (r+1),[(6,_),(7,_)],?_,(KP [6,7,3,4]),?_⟩
   · omega
   · exact Turn.drop ⟨[.acc (.slice a45 (1+r+1) c45) 5 1 (1+r+1) (byteV (encP n j r)++byteV [digitJ n j r])],rfl,hs2,r+1,a45,c45,rfl,Q0,by rw [show ((j : Int) - 1 - r - 1) = (j : Int) - 1 - ((r+1 : Nat) : Int) from by omega] <;> rfl,by rw [show byteV (encP n j (r+1)) = byteV (encP n j r)++byteV [digitJ n j r] from by rw [encP_succ];exact List.map_append] <;> rfl,rfl⟩ SB
  refine CW.exit ?_
  refine hK20 _ _ _ ?_
  refine CW.seq fun K25 hK25=>?_
  refine CW.region ?_
  refine RL.q (Y.move rfl) rfl ?_
  refine RL.q (Y.assign rfl) rfl ?_
  refine RL.nil ?_
  refine hK25 _ _ _ ?_
  refine CW.kp [2] rfl ?_
  refine CW.ret ?_
  obtain rfl : r = j:=Q0
  have he : encI n = encP n r r:=by rw [encI,hk]
  exact ⟨_,rfl,Turn.drop ⟨_,_,by rw [he,encP_len],rfl,by rw [he,encP_len]⟩ SB⟩
 refine CW.keep (L':=[(3,vword (mag n)),(4,vbyte (sgn n))]) (Keep.cons 3 (by rw [<-mag_nn hn h1];rfl) (Keep.cons 4 (by rw [show sgn n = 0 from if_neg h1];rfl) (Keep.nil _))) ?_
 refine CW.skip ?_
 refine hK3 _ _ _ ?_
 refine CW.seq fun K26 hK26=>?_
 refine CW.region ?_
 refine RL.q (Y.assign rfl) rfl ?_
 refine RL.nil ?_
 refine hK26 _ _ _ ?_
 refine CW.kp [3,4,5] rfl ?_
 refine CW.seq fun K27 hK27=>?_
 refine CW.label ?_
 refine hK27 _ _ _ ?_
 refine CW.seq fun K28 hK28=>?_
 refine CW.block ?_
 -- LOOP 1: live [3,4,5] changed [5]
 refine CW.kp [5,3,4] rfl ?_
 refine CW.loopF (fun j Lc M1 Γc=>j<=8/\Lc = [(5,vint j)]/\Γc = []/\M1 = M/\mag n < 256 ^ j) 8 [(5,_)] [] rfl rfl ⟨Q0,rfl,rfl,rfl,Q0⟩ ?_
 rintro j Lc M Γc hs ⟨hj,rfl,rfl,rfl,hF⟩
 refine CW.seq fun K29 hK29=>?_
 refine CW.seq fun K30 hK30=>?_
 refine CW.region ?_
 refine RL.q (Y.move rfl) rfl ?_
 refine RL.q (Y.gtr rfl rfl) rfl ?_
 refine RL.nil ?_
 refine hK30 _ _ _ ?_
 refine CW.kp [3,4,5,15] rfl ?_
 refine CW.ite rfl (fun h2=>?_) (fun h2=>?_)
 ·refine CW.skip ?_
  refine hK29 _ _ _ ?_
  refine CW.block ?_
  refine CW.seq fun K31 hK31=>?_
  refine CW.seq fun K32 hK32=>?_
  refine CW.region ?_
  refine RL.q (Y.move rfl) rfl ?_
  refine RL.q (Y.move rfl) rfl ?_
  refine RL.q (Y.sub rfl rfl OM) rfl ?_
  refine RL.q (Y.mul rfl rfl OM) rfl ?_
  refine RL.q (Y.shrN (8 * (j - 1)) rfl rfl OM OM) rfl ?_
  refine RL.q (Y.gtrK rfl rfl) rfl ?_
  refine RL.nil ?_
  refine hK32 _ _ _ ?_
  refine CW.kp [3,4,5,21] rfl ?_
  refine CW.ite rfl (fun h3=>?_) (fun h3=>?_)
  ·refine CW.exit ?_
   refine hK28 _ _ _ ?_
   refine CW.seq fun K33 hK33=>?_
   have hk : nd (mag n) = j:=nd_eq hF (by first | exact .inl OM | exact .inr OM)
   refine CW.region ?_
   refine RL.q (Y.move rfl) rfl ?_
   refine RL.q (Y.add rfl rfl OM) rfl ?_
   refine RL.q (Y.convTo (r:=((128+j : Nat) : Int)) KR KR rfl (by rw [wrap_u8];omega)) rfl ?_
   refine RL.q (Y.move rfl) rfl ?_
   refine RL.q (Y.xor8 rfl rfl OM (sgn_or n)) rfl ?_
   refine RL.buildSlice [vbyte (flip8 (sgn n) (128+j))] elem23 rfl Q1 (fill1 rfl rfl) rfl fun b29=>?_
   refine RL.ownAcc (k:=1) (sz:=1) PK rfl Q1 ?_
   refine RL.q (Y.assign rfl) rfl ?_
   refine RL.nil ?_
   refine hK33 _ _ _ ?_
   refine CW.kp [3,4,5,6] rfl ?_
   refine CW.seq fun K34 hK34=>?_
   refine CW.seq fun K35 hK35=>?_
   refine CW.region ?_
   refine RL.q (Y.move rfl) rfl ?_
   refine RL.q (Y.sub rfl rfl OM) rfl ?_
   refine RL.q (Y.assign rfl) rfl ?_
   refine RL.nil ?_
   refine hK35 _ _ _ ?_
   refine CW.kp [3,4,6,7] rfl ?_
   refine CW.block ?_
   -- LOOP 2: live [3,4,6,7] changed [6,7]
   refine CW.kp [6,7,3,4] rfl ?_
   refine CW.loopF (fun m Lc M1 Γc=>∃ (r : Nat) (ua : Option Addr) (ca : Nat),m = j - r/\r<=j/\Lc = [(6,.slice ua (1+r) ca),(7,vint ((j : Int) - 1 - r))]/\Γc = [.acc (.slice ua (1+r) ca) 5 1 (1+r) (byteV (encP n j r))]/\M1 = M) j [(6,_),(7,_)] [_] rfl rfl ⟨0,some ⟨b29,0,none⟩,1,rfl,Nat.zero_le _,Q2,rfl,rfl⟩ ?_
   rintro m Lc M Γc hs2 ⟨r,ua,ca,rfl,hr,rfl,rfl,rfl⟩
   refine CW.seq fun K36 hK36=>?_
   refine CW.seq fun K37 hK37=>?_
   refine CW.region ?_
   refine RL.q (Y.move rfl) rfl ?_
   refine RL.q (Y.geq rfl rfl) rfl ?_
   refine RL.nil ?_
   refine hK37 _ _ _ ?_
   refine CW.kp [3,4,6,7,33] rfl ?_
   refine CW.ite rfl (fun h4=>?_) (fun h4=>?_)
   ·have hrj : r < j:=Q0
    refine CW.skip ?_
    refine hK36 _ _ _ ?_
    refine CW.seq fun K38 hK38=>?_
    refine CW.block ?_
    refine CW.region ?_
    refine RL.q (Y.move rfl) rfl ?_
    refine RL.q (Y.move rfl) rfl ?_
    refine RL.q (Y.move rfl) rfl ?_
    refine RL.q (Y.mul rfl rfl OM) rfl ?_
    refine RL.q (Y.shrN (8 * (j - 1 - r)) rfl rfl OM OM) rfl ?_
    refine RL.q (Y.convTo (r:=((mag n / 2 ^ (8 * (j - 1 - r)) % 256 : Nat) : Int)) KR KR rfl (by rw [wrap_u8];omega)) rfl ?_
    refine RL.q (Y.move rfl) rfl ?_
    refine RL.q (Y.xor8 rfl rfl OM (sgn_or n)) rfl ?_
    refine RL.buildSlice [vbyte (digitJ n j r)] elem23 rfl Q1 (fill1 rfl rfl) rfl fun b44=>?_
    refine RL.append elem23 rfl rfl PK (SrcOk.own (sz:=1) (m:=1) MM rfl (bytes_one [digitJ n j r])) OM (by unfold lim;omega) rfl fun a45 c45 hc45=>?_
    refine RL.q (Y.assign rfl) rfl ?_
    refine RL.nil ?_
    refine hK38 _ _ _ ?_
    refine CW.kp [3,4,6,7] rfl ?_
    refine CW.region ?_
    refine RL.q (Y.move rfl) rfl ?_
    refine RL.q (Y.sub rfl rfl OM) rfl ?_
    refine RL.q (Y.assign rfl) rfl ?_
    refine RL.nil ?_
    refine ⟨j - (r+1),[(6,_),(7,_)],?_,(KP [6,7,3,4]),?_⟩
    · omega
    · exact Turn.drop ⟨[.acc (.slice a45 (1+r+1) c45) 5 1 (1+r+1) (byteV (encP n j r)++byteV [digitJ n j r])],rfl,hs2,r+1,a45,c45,rfl,Q0,by rw [show ((j : Int) - 1 - r - 1) = (j : Int) - 1 - ((r+1 : Nat) : Int) from by omega] <;> rfl,by rw [show byteV (encP n j (r+1)) = byteV (encP n j r)++byteV [digitJ n j r] from by rw [encP_succ];exact List.map_append] <;> rfl,rfl⟩ SB
   refine CW.exit ?_
   refine hK34 _ _ _ ?_
   refine CW.seq fun K39 hK39=>?_
   refine CW.region ?_
   refine RL.q (Y.move rfl) rfl ?_
   refine RL.q (Y.assign rfl) rfl ?_
   refine RL.nil ?_
   refine hK39 _ _ _ ?_
   refine CW.kp [2] rfl ?_
   refine CW.ret ?_
   obtain rfl : r = j:=Q0
   have he : encI n = encP n r r:=by rw [encI,hk]
   exact ⟨_,rfl,Turn.drop ⟨_,_,by rw [he,encP_len],rfl,by rw [he,encP_len]⟩ SB⟩
  refine CW.skip ?_
  refine hK31 _ _ _ ?_
  refine CW.region ?_
  refine RL.q (Y.move rfl) rfl ?_
  refine RL.q (Y.sub rfl rfl OM) rfl ?_
  refine RL.q (Y.assign rfl) rfl ?_
  refine RL.nil ?_
  refine ⟨j - 1,[(5,_)],?_,(KP [5,3,4]),?_⟩
  · omega
  · exact Turn.drop ⟨[],rfl,hs,Q0,by rw [show ((j : Int) - 1) = ((j - 1 : Nat) : Int) from by omega],rfl,rfl,lt_pow_pred OM OM⟩ SB
 refine CW.exit ?_
 refine hK28 _ _ _ ?_
 refine CW.seq fun K40 hK40=>?_
 have hk : nd (mag n) = j:=nd_eq hF (by first | exact .inl OM | exact .inr OM)
 refine CW.region ?_
 refine RL.q (Y.move rfl) rfl ?_
 refine RL.q (Y.add rfl rfl OM) rfl ?_
 refine RL.q (Y.convTo (r:=((128+j : Nat) : Int)) KR KR rfl (by rw [wrap_u8];omega)) rfl ?_
 refine RL.q (Y.move rfl) rfl ?_
 refine RL.q (Y.xor8 rfl rfl OM (sgn_or n)) rfl ?_
 refine RL.buildSlice [vbyte (flip8 (sgn n) (128+j))] elem23 rfl Q1 (fill1 rfl rfl) rfl fun b29=>?_
 refine RL.ownAcc (k:=1) (sz:=1) PK rfl Q1 ?_
 refine RL.q (Y.assign rfl) rfl ?_
 refine RL.nil ?_
 refine hK40 _ _ _ ?_
 refine CW.kp [3,4,5,6] rfl ?_
 refine CW.seq fun K41 hK41=>?_
 refine CW.seq fun K42 hK42=>?_
 refine CW.region ?_
 refine RL.q (Y.move rfl) rfl ?_
 refine RL.q (Y.sub rfl rfl OM) rfl ?_
 refine RL.q (Y.assign rfl) rfl ?_
 refine RL.nil ?_
 refine hK42 _ _ _ ?_
 refine CW.kp [3,4,6,7] rfl ?_
 refine CW.block ?_
 -- LOOP 2: live [3,4,6,7] changed [6,7]
 refine CW.kp [6,7,3,4] rfl ?_
 refine CW.loopF (fun m Lc M1 Γc=>∃ (r : Nat) (ua : Option Addr) (ca : Nat),m = j - r/\r<=j/\Lc = [(6,.slice ua (1+r) ca),(7,vint ((j : Int) - 1 - r))]/\Γc = [.acc (.slice ua (1+r) ca) 5 1 (1+r) (byteV (encP n j r))]/\M1 = M) j [(6,_),(7,_)] [_] rfl rfl ⟨0,some ⟨b29,0,none⟩,1,rfl,Nat.zero_le _,Q2,rfl,rfl⟩ ?_
 rintro m Lc M Γc hs2 ⟨r,ua,ca,rfl,hr,rfl,rfl,rfl⟩
 refine CW.seq fun K43 hK43=>?_
 refine CW.seq fun K44 hK44=>?_
 refine CW.region ?_
 refine RL.q (Y.move rfl) rfl ?_
 refine RL.q (Y.geq rfl rfl) rfl ?_
 refine RL.nil ?_
 refine hK44 _ _ _ ?_
 refine CW.kp [3,4,6,7,33] rfl ?_
 refine CW.ite rfl (fun h4=>?_) (fun h4=>?_)
 ·have hrj : r < j:=Q0
  refine CW.skip ?_
  refine hK43 _ _ _ ?_
  refine CW.seq fun K45 hK45=>?_
  refine CW.block ?_
  refine CW.region ?_
  refine RL.q (Y.move rfl) rfl ?_
  refine RL.q (Y.move rfl) rfl ?_
  refine RL.q (Y.move rfl) rfl ?_
  refine RL.q (Y.mul rfl rfl OM) rfl ?_
  refine RL.q (Y.shrN (8 * (j - 1 - r)) rfl rfl OM OM) rfl ?_
  refine RL.q (Y.convTo (r:=((mag n / 2 ^ (8 * (j - 1 - r)) % 256 : Nat) : Int)) KR KR rfl (by rw [wrap_u8];omega)) rfl ?_
  refine RL.q (Y.move rfl) rfl ?_
  refine RL.q (Y.xor8 rfl rfl OM (sgn_or n)) rfl ?_
  refine RL.buildSlice [vbyte (digitJ n j r)] elem23 rfl Q1 (fill1 rfl rfl) rfl fun b44=>?_
  refine RL.append elem23 rfl rfl PK (SrcOk.own (sz:=1) (m:=1) MM rfl (bytes_one [digitJ n j r])) OM (by unfold lim;omega) rfl fun a45 c45 hc45=>?_
  refine RL.q (Y.assign rfl) rfl ?_
  refine RL.nil ?_
  refine hK45 _ _ _ ?_
  refine CW.kp [3,4,6,7] rfl ?_
  refine CW.region ?_
  refine RL.q (Y.move rfl) rfl ?_
  refine RL.q (Y.sub rfl rfl OM) rfl ?_
  refine RL.q (Y.assign rfl) rfl ?_
  refine RL.nil ?_
  refine ⟨j - (r+1),[(6,_),(7,_)],?_,(KP [6,7,3,4]),?_⟩
  · omega
  · exact Turn.drop ⟨[.acc (.slice a45 (1+r+1) c45) 5 1 (1+r+1) (byteV (encP n j r)++byteV [digitJ n j r])],rfl,hs2,r+1,a45,c45,rfl,Q0,by rw [show ((j : Int) - 1 - r - 1) = (j : Int) - 1 - ((r+1 : Nat) : Int) from by omega] <;> rfl,by rw [show byteV (encP n j (r+1)) = byteV (encP n j r)++byteV [digitJ n j r] from by rw [encP_succ];exact List.map_append] <;> rfl,rfl⟩ SB
 refine CW.exit ?_
 refine hK41 _ _ _ ?_
 refine CW.seq fun K46 hK46=>?_
 refine CW.region ?_
 refine RL.q (Y.move rfl) rfl ?_
 refine RL.q (Y.assign rfl) rfl ?_
 refine RL.nil ?_
 refine hK46 _ _ _ ?_
 refine CW.kp [2] rfl ?_
 refine CW.ret ?_
 obtain rfl : r = j:=Q0
 have he : encI n = encP n r r:=by rw [encI,hk]
 exact ⟨_,rfl,Turn.drop ⟨_,_,by rw [he,encP_len],rfl,by rw [he,encP_len]⟩ SB⟩
open Go Xe Pm
theorem rd_i {M : Mem} (z : Int) : Rd M (vI z) (vint z):=by unfold Rd;exact ⟨rfl,rfl⟩
theorem un_i {M : Mem} {z : Int} {d : Value} (h : Rd M (vI z) d) : d = vint z:=by unfold Rd at h;exact h.1
theorem enc_is {v : Val} (hv : v.Ok) (hs : v.size<=1099511627776) : IS s7 [v.enc] [[dbytes (encV v)]]:=by
 refine is_of_old rfl ?_
 show Old _ _ _ _
 intro w0 M Γ vs hlen hpl hN
 obtain ⟨a,rfl⟩ : ∃ a,vs = [a]:=by
  match vs,hlen with
  | [a],_=>exact ⟨a,rfl⟩
 obtain h0 | ⟨_,h0,h1⟩:=hpl 0
 ·cases h0
 cases h0
 obtain ⟨_,us,rfl,hp⟩ : v.enc.length = 3/\∃ us : List Value,a = .agg us.toArray/\RdL M v.enc us:=h1
 intro w hw
 refine (encode_ok _ w0 M Γ v us rfl (Kn.of hp) hv hs w hw).mono ?_
 rintro x w' ⟨u,M',Γ',rfl,⟨h3,rfl,hr⟩,hst⟩
 refine ⟨_,_,_,rfl,⟨h3,rfl,[u],_,rfl,rfl,fun _=>rfl,fun t=>?_⟩,hst⟩
 match t with
 | 0=>exact .inr ⟨_,rfl,hr⟩
 | t+1=>exact .inl rfl
theorem dec_is {b : List Nat} (hb : ∀ x∈b,x < 256) : IS s8 [[dbytes b]] [(decV b).1.enc,[vI (decV b).2.1],[vI (decV b).2.2]]:=by
 refine is_of_old rfl ?_
 show Old _ _ _ _
 intro w0 M Γ vs hlen hpl hN
 obtain ⟨a,rfl⟩ : ∃ a,vs = [a]:=by
  match vs,hlen with
  | [a],_=>exact ⟨a,rfl⟩
 obtain h0 | ⟨_,h0,h1⟩:=hpl 0
 ·cases h0
 cases h0
 intro w hw
 refine (decode_ok w0 M Γ b a (Kn.of (show Rd M (dbytes b) a from h1)) hb w hw).mono ?_
 rintro x w' ⟨v,M',Γ',rfl,⟨h3,rfl,us,rfl,hr⟩,hst⟩
 refine ⟨_,_,_,rfl,⟨h3,rfl,[.agg us.toArray,vint (decV b).2.1,vint (decV b).2.2],_,⟨rfl,rfl⟩,rfl,fun _=>rfl,fun t=>?_⟩,hst⟩
 match t with
 | 0=>exact .inr ⟨_,rfl,Val.enc_len _,us,rfl,hr⟩
 | 1=>exact .inr ⟨_,rfl,show Rd M' (vI _) _ from rd_i _⟩
 | 2=>exact .inr ⟨_,rfl,show Rd M' (vI _) _ from rd_i _⟩
 | t+3=>exact .inl rfl
theorem encI_len (n : Int) : (encI n).length = 1+nd (mag n):=by rw [encI,encP_len]
theorem int_is {n : Int} (hn : InI n) : IS s22 [[vI n]] [[dbytes (encI n)]]:=by
 have h9 : (encI n).length<=9:=by
  rw [encI_len]
  have:=nd_le (m:=mag n) (by have:=mag_lt hn;omega)
  omega
 refine is_of_row (e:=5) (sz:=1) rfl rfl rfl (by unfold lim;omega) ?_
 intro w0 M Γ vs hlen hpl hN
 obtain ⟨a,rfl⟩ : ∃ a,vs = [a]:=by
  match vs,hlen with
  | [a],_=>exact ⟨a,rfl⟩
 obtain h0 | ⟨_,h0,h1⟩:=hpl 0
 ·cases h0
 cases h0
 obtain rfl:=un_i (show Rd M (vI n) a from h1)
 intro w hw
 refine (introw_ok w0 M Γ n hn w hw).mono ?_
 rintro x w' ⟨u,M',Γ',rfl,⟨ad,c,rfl,rfl,rfl⟩,hst⟩
 exact ⟨_,_,_,rfl,⟨ad,c,_,rfl,Sub.refl _,rfl,bytes_rd _,Q2⟩,hst⟩
def bytesL (l : List Nat) : List Nat:=encI l.length++l
theorem byteD_str {l : List Nat} (h : ∀ x∈l,x < 256) : byteD (strB (l.map fun (x : Nat)=>(x : Int))) = l.map dbyte:=by
 unfold byteD
 show List.map _ (List.map (fun z : Int=>UInt8.ofNat z.toNat) (l.map fun (x : Nat)=>(x : Int))).toArray.toList = _
 rw [List.toList_toArray,List.map_map,List.map_map]
 refine List.map_congr_left fun x hx=>?_
 have:=h x hx
 simp only [Function.comp_apply,Int.toNat_natCast]
 show D.v (.int .u8 ((UInt8.ofNat x).toNat : Int)) = D.v (.int .u8 (x : Int))
 rw [UInt8.toNat_ofNat_of_lt' (by show x < 256;exact this)]
theorem bytes_is {l : List Nat} (h : ∀ x∈l,x < 256) (hl : l.length<=1000000) : IS s11 [[vS (strB (l.map fun (x : Nat)=>(x : Int)))]] [[dbytes (bytesL l)]]:=by
 refine w11.is ?_
 unfold g11
 simp only [pmr]
 rw [strB_size,List.length_map]
 have h9 : (encI (l.length : Int)).length<=9:=by
  rw [encI_len]
  have:=nd_le (m:=mag (l.length : Int)) (by have:=mag_lt (n:=(l.length : Int)) (by unfold InI;omega);omega)
  omega
 refine caK_of (int_is (by unfold InI;omega)) ?_
 unfold dbytes
 simp only [pmr]
 rw [byteD_str h]
 refine ⟨Qa,?_⟩
 unfold bytesL
 simp
def beginL : List D:=uL .u32 [1779033703,3144134277,1013904242,2773480762,1359893119,2600822924,528734635,1541459225]++(List.replicate 64 (.v (.int .u8 0))++[.v (.int .u64 0)])
theorem begin_strm : Strm 0 beginL:=⟨_,_,⟨_,rfl,rfl⟩,Un.rep 64 0,rfl⟩
theorem begin_is : IS s28 [] [beginL]:=by
 have e : ∀ (J : Sig->St'->St'->Prop) (K : St'->Prop),g28 J [] K = K [beginL]:=fun J K=>by kernel_rfl
 refine w28.is ?_
 rw [e]
theorem of_is {l : List Nat} (h : ∀ x∈l,x < 256) (hl : l.length<=1000000) (tag : Int) : ∃ r,(∃ zs : List Int,r = [uL .u8 zs])/\IS s12 [[vI tag],[.sl 1 1 [vS (strB (l.map fun (x : Nat)=>(x : Int)))]]] r:=by
 refine w12.some ?_ fun r hr=>by obtain ⟨zs,rfl⟩:=hr;trivial
 unfold g12
 simp only [pmr]
 refine caK_of begin_is ?_
 simp only [pmr,pmk]
 refine ca_some (add_is begin_strm (by rw [strB_size];simp)) ?_
 rintro r ⟨es,hes,rfl⟩
 simp only [pmr]
 rw [strB_size] at hes
 generalize hZ : ([vK .u8 0,vK .u8 0,vK .u8 0,vK .u8 0,vK .u8 0,vK .u8 0,vK .u8 0,vK .u8 0,vK .u8 0,vK .u8 0,vK .u8 0,vK .u8 0,vK .u8 0,vK .u8 0,vK .u8 0,vK .u8 0] : List D) = Z
 refine Lp_on (σ:=Nat×Nat×List D) (fun x=>[[.sl 1 1 [vS (strB (l.map fun (x : Nat)=>(x : Int)))]],[vI ((1 : Nat) : Int)],[vI (x.1 : Int)],Z,x.2.2]) (fun x=>1 - x.1) (fun x=>x.1<=1/\Strm x.2.1 x.2.2/\x.2.1<=1+x.1 * 1000009) (0,1,es) ⟨Nat.zero_le _,hes,by show 1<=1+0 * 1000009;omega⟩ rfl ?_
 rintro ⟨j,n,ds⟩ next ⟨hj,hd,hnn⟩ hn
 dsimp only at hj hd hnn hn ⊢
 simp only [pmr]
 refine ⟨fun h1=>?_,fun h1=>?_⟩
 ·obtain rfl : j = 0:=Q0
  have e0 : el [vS (strB (l.map fun (x : Nat)=>(x : Int)))] 1 0 = [vS (strB (l.map fun (x : Nat)=>(x : Int)))]:=rfl
  rw [e0]
  refine ⟨Q1,caK_of (bytes_is h hl) ?_⟩
  unfold dbytes
  have hu : (bytesL l).map dbyte = uL .u8 ((bytesL l).map fun (x : Nat)=>(x : Int)):=by unfold uL;rw [List.map_map];rfl
  simp only [pmr]
  rw [hu]
  simp only [pmk]
  have h9 : (encI (l.length : Int)).length<=9:=by
   rw [encI_len]
   have:=nd_le (m:=mag (l.length : Int)) (by have:=mag_lt (n:=(l.length : Int)) (by unfold InI;omega);omega)
   omega
  have hL : (strB ((bytesL l).map fun (x : Nat)=>(x : Int))).size<=1000009:=by
   rw [strB_size]
   simp [bytesL]
   omega
  refine ca_some (add_is hd Q0) ?_
  rintro r ⟨fs,hfs,rfl⟩
  simp only [pmr]
  exact ⟨Q1,hn (1,_,fs) (by show 1 - 1 < 1 - 0;decide) ⟨Nat.le_refl _,hfs,by show n+_<=1+1 * 1000009;omega⟩⟩
 ·refine ca_some (sum_is hd Q0) ?_
  rintro r ⟨os,ho,rfl⟩
  simp only [pmr]
  obtain ⟨zs,_,hz⟩:=ho.sub (o:=0) (m:=16) Q1
  exact ⟨Q1,Nat.le_refl _,zs,by rw [hz]⟩
set_option maxRecDepth 100000
abbrev s31 : Sig:=⟨31,⟨[],[]⟩,.g [.d,.w 0],[(0,.w 41 31)],false⟩
abbrev s32 : Sig:=⟨32,⟨[(0,.a 2),(1,.a 5)],[]⟩,.t [.g [.d,.d,.w 0],.c .i],[(0,.w 44 3)],false⟩
abbrev s48 : Sig:=⟨48,⟨[(0,.a 5),(1,.c .i),(2,.c (.p 0 0)),(3,.c (.p 1 0)),(4,.c (.p 2 0))],[(0,.a 27 2),(1,.a 3 1),(2,.b 104 [.f 48 [.p 0 0,.p 1 0,.p 2 0]])]⟩,.t [.g [.d,.d,.w 3],.c .i],[(3,.w 44 3),(0,.a 27 2),(1,.a 3 1),(2,.b 104 [.f 48 [.p 0 0,.p 1 0,.p 2 0]])],false⟩
abbrev s35 : Sig:=⟨35,⟨[(0,.a 2),(1,.a 5)],[]⟩,.c .bo,[],true⟩
abbrev s34 : Sig:=⟨34,⟨[(0,.a 2),(1,.a 3)],[]⟩,.t [.a 31,.c .bo],[],false⟩
abbrev s49 : Sig:=⟨49,⟨[(0,.c .d),(1,.c (.f 50 [.p 0 0]))],[(0,.a 30 3)]⟩,.c .i,[(0,.a 30 3)],false⟩
abbrev s50 : Sig:=⟨50,⟨[(0,.a 31),(1,.c (.p 0 0))],[(0,.a 30 3)]⟩,.c .bo,[(0,.a 30 3)],false⟩
abbrev s33 : Sig:=⟨33,⟨[(0,.c .i)],[]⟩,.a 3,[],false⟩
abbrev s36 : Sig:=⟨36,⟨[(0,.a 5),(1,.a 5)],[]⟩,.c .bo,[],true⟩
abbrev s51 : Sig:=⟨51,⟨[(0,.c .d),(1,.c .d),(2,.c (.f 36 []))],[]⟩,.c .bo,[],true⟩
abbrev s37 : Sig:=⟨37,⟨[(0,.a 3),(1,.a 3)],[]⟩,.c .bo,[],true⟩
abbrev s52 : Sig:=⟨52,⟨[(0,.a 3),(1,.a 3)],[]⟩,.c .i,[],true⟩
abbrev s38 : Sig:=⟨38,⟨[(0,.a 2),(1,.a 5),(2,.a 3)],[]⟩,.c .bo,[],true⟩
abbrev s53 : Sig:=⟨53,⟨[(0,.a 3)],[]⟩,.c .bo,[],true⟩
abbrev s59 : Sig:=⟨59,⟨[(0,.a 3),(1,.c .i),(2,.c (.p 0 0)),(3,.c (.p 1 0))],[(0,.a 3 1),(1,.b 114 [.f 59 [.p 0 0,.p 1 0]])]⟩,.c .bo,[(0,.a 3 1),(1,.b 114 [.f 59 [.p 0 0,.p 1 0]])],false⟩
abbrev s60 : Sig:=⟨60,⟨[(0,.c .d),(1,.c (.f 61 [.p 0 0,.p 1 0]))],[(0,.b 114 [.f 59 [.p 2 0,.p 0 0]]),(1,.a 3 1),(2,.a 3 1)]⟩,.c .bo,[(0,.b 114 [.f 59 [.p 2 0,.p 0 0]]),(1,.a 3 1),(2,.a 3 1)],false⟩
abbrev s60_1 : Sig:=⟨60,⟨[(0,.c .d),(1,.c (.f 62 [.p 0 0,.p 1 0]))],[(0,.a 27 2),(1,.a 33 5)]⟩,.c .bo,[(0,.a 27 2),(1,.a 33 5)],false⟩
abbrev s65 : Sig:=⟨65,⟨[(0,.c .d),(1,.c (.f 61 [.p 0 0,.p 1 0]))],[(0,.b 114 [.f 59 [.p 2 0,.p 0 0]]),(1,.a 3 1),(2,.a 3 1)]⟩,.c .i,[(0,.b 114 [.f 59 [.p 2 0,.p 0 0]]),(1,.a 3 1),(2,.a 3 1)],false⟩
abbrev s61 : Sig:=⟨61,⟨[(0,.a 3),(1,.c (.p 0 0)),(2,.c (.p 1 0))],[(0,.b 114 [.f 59 [.p 2 0,.p 0 0]]),(1,.a 3 1),(2,.a 3 1)]⟩,.c .bo,[(0,.b 114 [.f 59 [.p 2 0,.p 0 0]]),(1,.a 3 1),(2,.a 3 1)],false⟩
abbrev s54 : Sig:=⟨54,⟨[(0,.a 2),(1,.a 5),(2,.a 3)],[]⟩,.c .bo,[],true⟩
abbrev s39 : Sig:=⟨39,⟨[(0,.a 3)],[]⟩,.c .i,[],true⟩
abbrev s55 : Sig:=⟨55,⟨[(0,.a 3)],[]⟩,.c .i,[],true⟩
abbrev s40 : Sig:=⟨40,⟨[(0,.a 3)],[]⟩,.c .i,[],true⟩
def tabT (s : Sig) : Option (Tb×Hint):=match s.f with
 | 13=>some (⟨[s5,s7,s8,s10,s14,s31,s32,s33,s34,s35,s36,s37,s38,s39,s40],[30],[],[54],[(0,shaD)]⟩,⟨[],[(18,⟨[(1,.c (.p 0 0)),(3,.c (.p 1 0)),(4,.c (.p 2 0)),(6,.c (.p 3 0)),(8,.c (.p 4 0)),(9,.c (.p 5 0)),(10,.c (.p 6 0)),(11,.c (.p 7 0)),(12,.c (.p 8 0)),(13,.c (.p 9 0)),(18,.c (.p 10 0)),(19,.c .bo),(20,.c .bo)],[(0,.a 27 2),(1,.a 33 5),(2,.b 44 [.d,.d,.w 11]),(3,.b 44 [.d,.d,.w 12]),(4,.b 44 [.d,.d,.w 13]),(5,.b 44 [.d,.d,.w 14]),(6,.b 44 [.d,.d,.w 15]),(7,.b 44 [.d,.d,.w 16]),(8,.b 44 [.d,.d,.w 17]),(9,.b 44 [.d,.d,.w 18]),(10,.a 41 31),(11,.w 44 3),(12,.w 44 3),(13,.w 44 3),(14,.w 44 3),(15,.w 44 3),(16,.w 44 3),(17,.w 44 3),(18,.w 44 3)]⟩),(19,⟨[(1,.c (.p 0 0)),(3,.c (.p 1 0)),(4,.c (.p 2 0)),(6,.c (.p 3 0)),(8,.c (.p 4 0)),(9,.c (.p 5 0)),(10,.c (.p 6 0)),(13,.c (.p 7 0)),(18,.c (.p 8 0)),(19,.c .bo),(20,.c .bo),(21,.c .bo)],[(0,.a 27 2),(1,.a 33 5),(2,.b 44 [.d,.d,.w 9]),(3,.b 44 [.d,.d,.w 10]),(4,.b 44 [.d,.d,.w 11]),(5,.b 44 [.d,.d,.w 12]),(6,.b 44 [.d,.d,.w 13]),(7,.b 44 [.d,.d,.w 14]),(8,.a 41 31),(9,.w 44 3),(10,.w 44 3),(11,.w 44 3),(12,.w 44 3),(13,.w 44 3),(14,.w 44 3)]⟩)],[]⟩)
 | 31=>some (⟨[s5,s14],[30],[],[54],[(0,shaD)]⟩,⟨[],[],[]⟩)
 | 14=>some (⟨[],[30],[],[54],[(0,shaD)]⟩,⟨[],[],[]⟩)
 | 5=>some (⟨[],[30],[],[54],[(0,shaD)]⟩,⟨[],[],[]⟩)
 | 32=>some (⟨[s48],[30],[],[54],[(0,shaD)]⟩,⟨[],[],[]⟩)
 | 48=>some (⟨[s34,s35,s48],[30],[],[54],[(0,shaD)]⟩,⟨[(21,⟨[(1,.c .i),(2,.c (.p 0 0)),(3,.c (.p 1 0)),(4,.c (.p 2 0)),(7,.c (.p 3 0)),(11,.c (.p 4 0)),(62,.c .d),(63,.c .i),(64,.c .i)],[(0,.a 27 2),(1,.a 3 1),(2,.b 104 [.f 48 [.p 0 0,.p 1 0,.p 2 0]]),(3,.a 44 3),(4,.b 44 [.d,.d,.w 5]),(5,.w 44 3)]⟩)],[(20,⟨[(1,.c .i),(2,.c (.p 0 0)),(3,.c (.p 1 0)),(4,.c (.p 2 0)),(7,.c (.p 3 0)),(11,.c (.p 4 0)),(12,.c .d)],[(0,.a 27 2),(1,.a 3 1),(2,.b 104 [.f 48 [.p 0 0,.p 1 0,.p 2 0]]),(3,.a 44 3),(4,.b 44 [.d,.d,.w 5]),(5,.w 44 3)]⟩)],[]⟩)
 | 35=>some (⟨[s34],[30],[],[54],[(0,shaD)]⟩,⟨[(2,⟨[(2,.c (.p 0 0)),(3,.c (.p 1 0)),(5,.c .i)],[(0,.a 27 2),(1,.a 33 5)]⟩)],[(3,⟨[(2,.c (.p 0 0)),(3,.c (.p 1 0)),(5,.c .i)],[(0,.a 27 2),(1,.a 33 5)]⟩)],[]⟩)
 | 34=>some (⟨[s49],[30],[],[54],[(0,shaD)]⟩,⟨[],[],[]⟩)
 | 49=>some (⟨[s50],[30],[],[54],[(0,shaD)]⟩,⟨[(2,⟨[(0,.c .d),(1,.c (.f 50 [.p 0 0])),(7,.c .i),(8,.c .i)],[(0,.a 30 3)]⟩)],[],[]⟩)
 | 50=>some (⟨[],[30],[],[54],[(0,shaD)]⟩,⟨[],[],[]⟩)
 | 33=>some (⟨[],[30],[],[54],[(0,shaD)]⟩,⟨[],[],[]⟩)
 | 36=>some (⟨[s51],[30],[],[54],[(0,shaD)]⟩,⟨[],[],[]⟩)
 | 51=>some (⟨[s36],[30],[],[54],[(0,shaD)]⟩,⟨[(4,⟨[(1,.c .d),(2,.c (.f 36 [])),(15,.c .d),(16,.c .i),(17,.c .i)],[]⟩)],[],[]⟩)
 | 10=>some (⟨[s25,s26,s27],[30],[],[54],[(0,shaD)]⟩,⟨[],[],[]⟩)
 | 26=>some (⟨[s46],[30],[],[54],[(0,shaD)]⟩,⟨[],[],[]⟩)
 | 46=>some (⟨[],[30],[],[54],[(0,shaD)]⟩,⟨[],[],[]⟩)
 | 25=>some (⟨[],[30],[],[54],[(0,shaD)]⟩,⟨[(3,⟨[(3,.c .i),(6,.c .d),(7,.c .i),(8,.c .i)],[]⟩)],[],[]⟩)
 | 27=>some (⟨[s10],[30],[],[54],[(0,shaD)]⟩,⟨[(2,⟨[(0,.c .d),(1,.c .d),(2,.c (.f 10 [])),(11,.c .d),(12,.c .i),(13,.c .i)],[]⟩)],[],[]⟩)
 | 37=>some (⟨[s52],[30],[],[54],[(0,shaD)]⟩,⟨[],[],[]⟩)
 | 52=>some (⟨[s52],[30],[],[54],[(0,shaD)]⟩,⟨[(4,⟨[(2,.c (.p 0 0)),(3,.c (.p 1 0)),(5,.c (.w 2)),(6,.c (.w 3)),(7,.c .i)],[(0,.a 44 3),(1,.a 44 3),(2,.w 3 1),(3,.w 3 1)]⟩),(11,⟨[(2,.c (.p 0 0)),(3,.c (.p 1 0)),(8,.c .i)],[(0,.a 44 3),(1,.a 44 3)]⟩)],[],[]⟩)
 | 38=>some (⟨[s53,s54],[30],[],[54],[(0,shaD)]⟩,⟨[],[],[]⟩)
 | 53=>some (⟨[s59],[30],[],[54],[(0,shaD)]⟩,⟨[],[],[]⟩)
 | 59=>some (⟨[s60],[30],[],[54],[(0,shaD)]⟩,⟨[],[],[]⟩)
 | 60=>some (⟨[s65],[30],[],[54],[(0,shaD)]⟩,⟨[],[],[]⟩)
 | 65=>some (⟨[s61],[30],[],[54],[(0,shaD)]⟩,⟨[(2,⟨[(0,.c .d),(1,.c (.f 61 [.p 0 0,.p 1 0])),(7,.c .i),(8,.c .i)],[(0,.b 114 [.f 59 [.p 2 0,.p 0 0]]),(1,.a 3 1),(2,.a 3 1)]⟩)],[],[]⟩)
 | 61=>some (⟨[s59],[30],[],[54],[(0,shaD)]⟩,⟨[],[],[]⟩)
 | 54=>some (⟨[s34,s35,s54,s60_1],[30],[],[54],[(0,shaD)]⟩,⟨[(16,⟨[(3,.c (.p 0 0)),(7,.c (.p 1 0)),(141,.c .d),(142,.c .i),(143,.c .i)],[(0,.a 27 2),(1,.a 41 31)]⟩)],[],[]⟩)
 | 62=>some (⟨[s54],[30],[],[54],[(0,shaD)]⟩,⟨[],[],[]⟩)
 | 39=>some (⟨[s39,s55],[30],[],[54],[(0,shaD)]⟩,⟨[(7,⟨[(3,.c .i),(26,.c .d),(27,.c .i),(28,.c .i)],[]⟩)],[],[]⟩)
 | 55=>some (⟨[],[30],[],[54],[(0,shaD)]⟩,⟨[],[(4,⟨[(1,.c (.p 0 0)),(3,.c (.p 1 0))],[(0,.a 44 3),(1,.a 116 5)]⟩)],[]⟩)
 | 40=>some (⟨[s40],[30],[],[54],[(0,shaD)]⟩,⟨[(3,⟨[(3,.c .i),(7,.c .d),(8,.c .i),(9,.c .i)],[]⟩)],[],[]⟩)
 | _=>none
abbrev exV : List D:=[vI 4,vI 0,.sl 1 3 [vI 0,vI 5,.sl 0 3 []]]
abbrev exC : D:=.sl 9 1 [vK .u8 129,vK .u8 4,vK .u8 128,vK .u8 129,vK .u8 1,vK .u8 128,vK .u8 129,vK .u8 5,vK .u8 128]
def extL (s : Sig) (a : St') : Option St':=match eqSig s s7 && eqSt a [exV] with
 | true=>some [[exC]]
 | false=>match eqSig s s8 && eqSt a [[exC]] with
  | true=>some [exV,[vI 9],[vI 0]]
  | false=>none
theorem extL_ok {s : Sig} {a r : St'} (h : extL s a = some r) : Pm.Is Tryd.prog s a r:=by
 unfold extL at h
 have hG : valG.enc = exV:=by kernel_rfl
 have hC : dbytes codeG = exC:=by kernel_rfl
 split at h
 ·rename_i hc
  simp only [Bool.and_eq_true] at hc
  cases h
  rw [eqSig_ok hc.1,eqSt_ok hc.2,<-hG,<-hC,<-encG]
  exact enc_is okG Q1
 ·split at h
  ·rename_i hc
   simp only [Bool.and_eq_true] at hc
   cases h
   rw [eqSig_ok hc.1,eqSt_ok hc.2,<-hC,<-hG]
   have:=dec_is (b:=codeG) Q1
   rw [dG1,dG2,dG3] at this
   exact this
  ·cases h
theorem tab_ok {s : Sig} {tb : Tb} {H : Hint} (h : tabT s = some (tb,H)) : TbOk Tryd.prog tb:=by
 unfold tabT at h
 split at h <;> first | (cases h;exact tbok _ _) | cases h
theorem lives_run : evF 100 Tryd.prog tabT extL 30 s13 [] = some [[vB true]]:=by kernel_rfl
theorem lives_is : IS s13 [] [[vB true]]:=evF_ok (fun _ _ _ h=>tab_ok h) (fun _ _ _ h=>extL_ok h) mixP 30 _ _ _ lives_run
end Go.Proofs.YtfgkhhfkodlbpaaDoor

namespace Xe
open Go
theorem numsE {b pre rest : List Nat} {n : Int} {j : Nat} {acc : List Int} (hn : InI n) (hb : b = pre++(encI n++rest)) : nums b (j+1) pre.length acc = nums b j (pre++encI n).length (acc++[n]):=by
 have hd : b.drop pre.length = encI n++rest:=by rw [hb];simp
 have hg:=getI_encI hn rest
 rw [nums,hd,hg]
 simp
theorem nums3 {b pre rest : List Nat} {x y z : Int} (hx : InI x) (hy : InI y) (hz : InI z) (hb : b = pre++(encI x++(encI y++(encI z++rest)))) : nums b 3 pre.length [] = ([x,y,z],0,(pre++(encI x++(encI y++encI z))).length):=by
 rw [numsE hx hb,numsE (pre:=pre++encI x) (n:=y) hy (rest:=encI z++rest) (by rw [hb];simp),numsE (pre:=pre++encI x++encI y) (n:=z) hz (rest:=rest) (by rw [hb];simp),nums]
 simp
theorem decF_enc (b : List Nat) : ∀ (n : Nat) (v : Val) (l : Int) (pre rest : List Nat),v.Ok->v.depth<=n->(v.size : Int)<=l->v.size<=1000000->b = pre++(encV v++rest)->decF b n l pre.length = (v,0,l - v.size,(pre++encV v).length)
 | 0,v,l,pre,rest,_,hd,_,_,_=>by rw [Val.depth_eq] at hd;omega
 | n+1,v,l,pre,rest,ho,hd,hs,hm,hb=>by
  have hse:=Val.size_eq v
  have hde:=Val.depth_eq v
  have hkl : v.kids.length<=Val.sizes v.kids:=by
   have : ∀ l : List Val,l.length<=Val.sizes l:=fun l=>by
    induction l with
    | nil=>exact Nat.zero_le _
    | cons x xs ih=>rw [Val.sizes,List.length_cons];have:=Val.size_eq x;omega
   exact this _
  have hee:=encV_eq v
  have kids : ∀ (ks : List Val) (q : Int) (p2 r2 : List Nat),(∀ k∈ks,k.Ok/\k.depth<=n/\k.size<=1000000)->(Val.sizes ks : Int)<=q->b = p2++(encVs ks++r2)->decL (decF b n) ks.length q p2.length = (ks,0,q - Val.sizes ks,(p2++encVs ks).length):=by
   intro ks
   induction ks with
   | nil=>intro q p2 r2 _ _ _;simp [decL,Val.sizes,encVs]
   | cons k ks ih =>
    intro q p2 r2 hk hq h2
    rw [Val.sizes] at hq
    have h1:=hk k (List.mem_cons_self ..)
    have e1:=decF_enc b n k q p2 (encVs ks++r2) h1.1 h1.2.1 Q0 h1.2.2 (by rw [h2,encVs];simp)
    have e2:=ih (q - k.size) (p2++encV k) r2 (fun x hx=>hk x (List.mem_cons_of_mem _ hx)) Q0 (by rw [h2,encVs];simp)
    rw [List.length_cons,decL,e1]
    simp only [ne_eq,not_true_eq_false,if_false]
    rw [e2]
    simp only [not_true_eq_false,if_false,Val.sizes,encVs]
    refine Prod.ext rfl (Prod.ext rfl (Prod.ext ?_ ?_))
    ·show q - (k.size : Int) - (Val.sizes ks : Int) = q - ((k.size+Val.sizes ks : Nat) : Int)
     omega
    ·show (p2++encV k++encVs ks).length = (p2++(encV k++encVs ks)).length
     simp
  have h3:=nums3 (b:=b) (pre:=pre) (rest:=encVs v.kids++rest) ho.kind ho.n (show InI (v.kids.length : Int) by unfold InI;omega) (by rw [hb,hee];simp)
  rw [decF,if_neg Q0,h3]
  unfold decN
  simp only [ne_eq,not_true_eq_false,if_false]
  have eg2 : ([v.kind,v.n,(v.kids.length : Int)] : List Int).getD 2 0 = (v.kids.length : Int):=rfl
  have eg1 : ([v.kind,v.n,(v.kids.length : Int)] : List Int).getD 1 0 = v.n:=rfl
  have eg0 : ([v.kind,v.n,(v.kids.length : Int)] : List Int).getD 0 0 = v.kind:=rfl
  rw [eg2,eg1,eg0,if_neg Q0,Int.toNat_natCast]
  have hk:=kids v.kids (l - 1) (pre++(encI v.kind++(encI v.n++encI v.kids.length))) rest (fun k hk=>⟨ho.kid hk,by have:=Val.depth_kid hk;omega,by have:=Val.size_kid hk;omega⟩) Q0 (by rw [hb,hee];simp)
  rw [hk]
  unfold dNode
  simp only [ne_eq,not_true_eq_false,if_false]
  refine Prod.ext ?_ (Prod.ext rfl (Prod.ext ?_ ?_))
  ·show Val.mk v.kind v.n v.kids = v
   cases v;rfl
  ·show l - 1 - (Val.sizes v.kids : Int) = l - (v.size : Int)
   omega
  ·show (pre++(encI v.kind++(encI v.n++encI v.kids.length))++encVs v.kids).length = (pre++encV v).length
   rw [hee];simp
theorem decV_enc {v : Val} {rest : List Nat} (ho : v.Ok) (hd : v.depth<=24) (hs : v.size<=256) : decV (encV v++rest) = (v,((encV v).length : Int),0):=by
 have:=decF_enc (encV v++rest) 24 v 256 [] rest ho hd Q0 Q0 rfl
 unfold decV
 rw [List.length_nil] at this
 rw [this]
 simp
theorem enc_prefix {v w : Val} {r : List Nat} (hv : v.Ok) (hw : w.Ok) (dv : v.depth<=24) (dw : w.depth<=24) (sv : v.size<=256) (sw : w.size<=256) (h : encV w = encV v++r) : v = w/\r = []:=by
 have h1:=decV_enc (rest:=[]) hw dw sw
 rw [List.append_nil,h,decV_enc hv dv sv] at h1
 have e : v = w:=congrArg Prod.fst h1
 subst e
 have : (encV v).length = (encV v).length+r.length:=by
  conv=>lhs;rw [h]
  simp
 exact ⟨rfl,List.length_eq_zero_iff.1 Q0⟩
theorem encI_inj {n m : Int} {a b : List Nat} (hn : InI n) (hm : InI m) (h : encI n++a = encI m++b) : n = m/\a = b:=by
 have h1:=getI_encI hn a
 rw [h,getI_encI hm b] at h1
 have e : m = n:=congrArg Prod.fst h1
 subst e
 exact ⟨rfl,List.append_cancel_left h⟩
end Xe

namespace Go.Proofs.YtfgkhhfkodlbpaaDoor
open Go Xe Pm
def toZ (l : List Nat) : List Int:=l.map fun (x : Nat)=>(x : Int)
theorem by_toZ (l : List Nat) (K : List Int->Prop) : byK .u8 (l.map dbyte) K = K (toZ l):=by
 have e : l.map dbyte = uL .u8 (toZ l):=by unfold uL toZ;rw [List.map_map];rfl
 rw [e,pmk.2.1]
theorem strZ_inj {a b : List Nat} (ha : ∀ x∈a,x < 256) (hb : ∀ x∈b,x < 256) : strB (toZ a) = strB (toZ b)↔a = b:=by
 constructor
 ·intro h
  have h1:=byteD_str ha
  have h2:=byteD_str hb
  unfold toZ at h
  rw [h,h2] at h1
  refine ((List.map_inj_right (fun x y h=>?_)).1 h1).symm
  simp only [dbyte,D.v.injEq,Value.int.injEq,true_and] at h
  omega
 ·rintro rfl;rfl
theorem bytesL_byte {l : List Nat} (h : ∀ x∈l,x < 256) (hl : l.length<=1000000) : ∀ x∈bytesL l,x < 256:=fun x hx=>by
 rcases List.mem_append.1 hx with hx | hx
 ·exact Xe.encI_byte (by unfold InI;omega) x hx
 ·exact h x hx
theorem bytesL_inj {a b : List Nat} (ha : a.length<=1000000) (hb : b.length<=1000000) : bytesL a = bytesL b↔a = b:=by
 constructor
 ·intro h
  exact (encI_inj (by unfold InI;omega) (by unfold InI;omega) h).2
 ·rintro rfl;rfl
theorem bytes_law {l m n : List Int} {rest : List Nat} (hl : ∀ x∈l,InI x) (hm : ∀ x∈m,InI x) (hn : ∀ x∈n,InI x) (hr : ∀ x∈rest,x < 256) : IS s3 [[dints l],[dints m],[dints n],[dbytes rest]] [[vB true]]:=by
 refine w3.is ?_
 unfold g3
 simp only [pmr]
 refine caK_of (types_is hl) ?_
 have hT:=tMany_rng l
 have hlen : (typesP l).defs.length = tMany l:=tDefs_len l (tMany l)
 simp only [pmr]
 rw [hlen]
 refine ⟨Q4,Q0,?_⟩
 have e1 : Int.toNat ((tMany l : Int) - 1) = tMany l - 1:=Q0
 rw [e1,el_Df _ (by rw [hlen];omega)]
 simp only [pms]
 have hget : (typesP l).defs[tMany l - 1]'(by rw [hlen];omega) = tDef l (tMany l - 1):=tDefs_get l Q0
 rw [hget]
 refine caK_of (Of_is _) ?_
 have htk : ofT (tDef l (tMany l - 1)).id = tyK (tMany l - 1):=rfl
 rw [htk]
 have hi : tMany l - 1 < tMany l:=Q0
 have hwf : wfT (typesP l) 12 (tyK (tMany l - 1)):=wfT_mono Q0 (types_wf l _ hi)
 have hsl : ∀ i,(theDef (typesP l) i).slots.length<=1000000:=fun i=>by
  have key : theDef (typesP l) i = def0\/theDef (typesP l) i∈(typesP l).defs:=by
   unfold theDef
   cases hf : (typesP l).defs.find? fun d=>decide (d.id = i) with
   | none=>exact .inl rfl
   | some d=>exact .inr (List.mem_of_find?_eq_some hf)
  rcases key with h | h
  ·rw [h];exact Nat.zero_le _
  ·obtain ⟨j,_,hj⟩:=List.mem_map.1 (show theDef (typesP l) i∈(List.range (tMany l)).map (tDef l) from h)
   rw [<-hj]
   have:=tArity_rng l j
   show (tSlots l j (tArity l j)).length<=1000000
   rw [tSlots_len]
   omega
 have hv:=types_val l m hi
 have hw:=types_val l n hi
 have fv:=(valV_fine (l:=m) hwf).1
 have fw:=(valV_fine (l:=n) hwf).1
 have hv1:=value_is (by rw [hlen];omega) hsl hm hwf Q1
 have hw1:=value_is (by rw [hlen];omega) hsl hn hwf Q1
 generalize valV (typesP l) 12 (tyK (tMany l - 1)) m = v at hv fv hv1
 generalize valV (typesP l) 12 (tyK (tMany l - 1)) n = w at hw fw hw1
 have ev:=v_cells v
 have ew:=v_cells w
 unfold vlD at ev ew hv1 hw1
 simp only [pmr]
 refine caK_of hv1 ?_
 simp only [pmr]
 refine caK_of hw1 ?_
 simp only [pmr]
 rw [ev,ew]
 have bv:=encV_byte v fv Q0
 have bw:=encV_byte w fw Q0
 have lv:=Xe.encV_len v fv Q0
 have lw:=Xe.encV_len w fw Q0
 refine caK_of (enc_is fv Q0) (caK_of (enc_is fw Q0) ?_)
 unfold dbytes
 simp only [pmr,Nat.zero_add]
 have hf:=few_is (b:=rest.map dbyte) (n:=30) Q1 Q1
 rw [List.length_map] at hf
 refine ⟨Qa,caK_of hf ?_⟩
 simp only [pmr]
 have hrl : (rest.take 30).length = min rest.length (Int.toNat 30):=by rw [List.length_take,Nat.min_comm];rfl
 have hcat : (encV v).map dbyte++(rest.map dbyte).take (Int.toNat 30) = (encV v++rest.take 30).map dbyte:=by rw [List.map_append,List.map_take];rfl
 have hclen : (encV v).length+min rest.length (Int.toNat 30) = (encV v++rest.take 30).length:=by rw [List.length_append,hrl]
 rw [hcat,hclen]
 have hb : ∀ x∈encV v++rest.take 30,x < 256:=fun x hx=>by
  rcases List.mem_append.1 hx with hx | hx
  ·exact bv x hx
  ·exact hr x (List.mem_of_mem_take hx)
 have hd:=dec_is hb
 rw [decV_enc fv Q0 hv.1] at hd
 unfold dbytes at hd
 refine ⟨by unfold room;simp only [List.length_append,List.length_take];omega,caK_of hd ?_⟩
 simp only [pmr]
 refine caK_of (ecmp_is v w Q0) ?_
 simp only [pmr,pms]
 refine ⟨fun _=>⟨fun _=>?_,fun h=>absurd trivial h⟩,fun h=>absurd trivial h⟩
 refine caK_of (ecmp_is v v Q0) ?_
 simp only [pmr,pms,cmpV_self]
 refine ⟨fun _=>?_,fun h=>absurd trivial h⟩
 simp only [by_toZ]
 have hcmp : cmpV v w = 0↔v = w:=⟨cmpV_eq0 v w,fun h=>by rw [h,cmpV_self]⟩
 have henc : encV v = encV w↔v = w:=⟨fun h=>(enc_prefix (r:=[]) fv fw Q0 Q0 hv.1 hw.1 (by rw [h,List.append_nil])).1,fun h=>by rw [h]⟩
 have hstr : decide (strB (toZ (encV v)) = strB (toZ (encV w))) = decide (cmpV v w = 0):=by
  rw [decide_eq_decide,strZ_inj bv bw,henc,hcmp]
 have hbl : decide (strB (toZ (bytesL (encV v))) = strB (toZ (bytesL (encV w)))) = decide (cmpV v w = 0):=by
  rw [decide_eq_decide,strZ_inj (bytesL_byte bv Q0) (bytesL_byte bw Q0),bytesL_inj Q0 Q0,henc,hcmp]
 rw [hstr,show ∀ x : Bool,(!(x == x)) = false from fun x=>by cases x <;> rfl]
 simp only [pmr]
 refine jn_to [[.sl (encV v).length 1 ((encV v).map dbyte)],[.sl (encV w).length 1 ((encV w).map dbyte)],[vB (decide (cmpV v w = 0))],[vB false]] ⟨fun hlt=>⟨Q0,?_⟩,fun hlt=>by rw [decide_eq_false hlt]⟩ ?_
 ·have hsub : sub ((encV w).map dbyte) (Int.toNat 0 * 1) (((encV v).length - Int.toNat 0) * 1) = ((encV w).take (encV v).length).map dbyte:=by
   unfold sub
   simp [List.map_take]
  rw [hsub]
  simp only [by_toZ]
  have hne : ¬ strB (toZ ((encV w).take (encV v).length)) = strB (toZ (encV v)):=by
   rw [strZ_inj (fun x hx=>bw x (List.mem_of_mem_take hx)) bv]
   intro h
   have h2 : encV w = encV v++(encV w).drop (encV v).length:=by
    conv=>lhs;rw [<-List.take_append_drop (encV v).length (encV w),h]
   have:=(enc_prefix fv fw Q0 Q0 hv.1 hw.1 h2).2
   have h3:=congrArg List.length this
   simp at h3
   omega
  rw [decide_eq_false hne]
 ·simp only [pmr,by_toZ]
  refine caK_of (bytes_is bv Q0) ?_
  unfold dbytes
  simp only [pmr,by_toZ]
  refine caK_of (bytes_is bw Q0) ?_
  unfold dbytes
  simp only [pmr,by_toZ]
  rw [hbl]
  refine jn_to [[vB (decide (cmpV v w = 0))],[vB false],[vB (decide (cmpV v w = 0))],[vB true]] ?_ ?_
  ·by_cases hvw : v = w
   ·subst hvw
    rw [decide_eq_true (cmpV_self v)]
    simp only [Bool.not_true,pmr,by_toZ]
    obtain ⟨r,⟨zs,rfl⟩,hof⟩:=of_is bv Q0 9
    refine caK_of hof (caK_of hof ?_)
    simp only [pmr,pmk]
    simp
   ·rw [decide_eq_false (fun h=>hvw (hcmp.1 h))]
    simp only [Bool.not_false,pmr]
  ·simp only [pmr,Bool.not_false]
   rw [show ∀ x : Bool,(x == x) = true from fun x=>by cases x <;> rfl]
   simp only [pmr]
   refine caK_of lives_is ?_
   simp only [pmr]
open Xe Pm
set_option maxRecDepth 20000
theorem wt3 : Y.intB Tryd.prog 3 .i64 = true:=by kernel_rfl
theorem wt5 : Y.intB Tryd.prog 5 .u8 = true:=by kernel_rfl
theorem wt22 : slcB Tryd.prog 22 3 1 = true:=by kernel_rfl
theorem wt23 : slcB Tryd.prog 23 5 1 = true:=by kernel_rfl
theorem ints_of {n : Nat} {ds : List D} (h : WT Tryd.prog n 22 ds) : ∃ l : List Int,ds = [dints l]/\∀ x∈l,InI x:=by
 obtain ⟨m,rfl,els,rfl,_,he⟩:=h.elems wt22
 obtain ⟨l,e1,e2,e3⟩:=elems_of (enc:=fun z=>[dint z]) (Q:=InI) fun x hx=>(he x hx).int wt3
 exact ⟨l,by rw [e1,e2,dints,List.map_eq_flatMap],e3⟩
theorem u8_of {z : Int} (h : (Lit.int .u8 z).wf = true) : 0<=z/\z < 256:=by
 simp only [Lit.wf,Bool.and_eq_true,decide_eq_true_eq] at h
 have h1 : IntKind.u8.min = 0:=Q1
 have h2 : IntKind.u8.max = 255:=Q1
 omega
theorem byte_of {n : Nat} {ds : List D} (h : WT Tryd.prog n 5 ds) : ∃ k : Nat,ds = [dbyte k]/\k < 256:=by
 have hu:=Y.intB_spec wt5
 cases n with
 | zero=>exact h.elim
 | succ m =>
  simp only [WT,hu] at h
  obtain ⟨z,rfl,hz⟩:=h
  obtain ⟨h1,h2⟩:=u8_of hz
  obtain ⟨k,rfl⟩:=Int.eq_ofNat_of_zero_le h1
  exact ⟨k,rfl,Q0⟩
theorem bytes_of {n : Nat} {ds : List D} (h : WT Tryd.prog n 23 ds) : ∃ l : List Nat,ds = [dbytes l]/\∀ x∈l,x < 256:=by
 obtain ⟨m,rfl,els,rfl,_,he⟩:=h.elems wt23
 obtain ⟨l,e1,e2,e3⟩:=elems_of (enc:=fun z=>[dbyte z]) (Q:=fun z=>z < 256) fun x hx=>byte_of (he x hx)
 exact ⟨l,by rw [e1,e2,dbytes,List.map_eq_flatMap],e3⟩
theorem arg_ints {M : Mem} {ts : List TypeId} {vs : List Value} (h : ArgsW Tryd.prog M (22::ts) vs) : ∃ (l : List Int) (v : Value) (vs' : List Value),vs = v::vs'/\Rd M (dints l) v/\(∀ x∈l,InI x)/\ArgsW Tryd.prog M ts vs':=by
 obtain ⟨n,ds,us,v,vs',rfl,h1,h2,h3,h4⟩:=h.inv
 obtain ⟨l,rfl,hl⟩:=ints_of h2
 simp only [SlotOf,Tryd.underlying22] at h3
 subst h3
 exact ⟨l,v,vs',rfl,h1.2 0 _ _ rfl rfl,hl,h4⟩
theorem arg_bytes {M : Mem} {ts : List TypeId} {vs : List Value} (h : ArgsW Tryd.prog M (23::ts) vs) : ∃ (l : List Nat) (v : Value) (vs' : List Value),vs = v::vs'/\Rd M (dbytes l) v/\(∀ x∈l,x < 256)/\ArgsW Tryd.prog M ts vs':=by
 obtain ⟨n,ds,us,v,vs',rfl,h1,h2,h3,h4⟩:=h.inv
 obtain ⟨l,rfl,hl⟩:=bytes_of h2
 simp only [SlotOf,Tryd.underlying23] at h3
 subst h3
 exact ⟨l,v,vs',rfl,h1.2 0 _ _ rfl rfl,hl,h4⟩
open Xe Pm Go.ChangeShapes Go.WideShapes Go.ChangeAt Go.RowKit
set_option maxRecDepth 100000
abbrev laidN : List (String × DataW Unit) := [("splicery/hash.constants", Rows.laid_splicery_hash_constants)]
theorem ownKn : ownKnob Tryd.prog.godebug = none:=by kernel_rfl
theorem gCon : Tryd.prog.globalNamed "splicery/hash.constants" = some 0 := by kernel_rfl
theorem tCon : (Tryd.prog.globals[0]?).map (·.type) = some 109:=by kernel_rfl
theorem u109 : Tryd.prog.underlying 109 = some (.array 64 80):=by kernel_rfl
theorem u80 : Tryd.prog.underlying 80 = some (.int .u32):=by kernel_rfl
theorem c80 : Tryd.prog.cellsOf 80 = 1:=by kernel_rfl
theorem laidEq : (Rows.laid_splicery_hash_constants : DataW Unit) = .agg (shaK.map fun z=>.lit (.int .u32 z)):=Q3
theorem gr_of {W : World} (h : laidMetH Tryd.prog laidN W) : GrOk (memOf W):=by
 rw [Go.MakeChecks.laidMetH_plain _ _ _ (by kernel_rfl)] at h
 obtain ⟨g,t,cs,fuel,p,hg,ht,hv,hd⟩:=Go.Lib.laidMet.reads h (List.mem_singleton.2 rfl)
 obtain rfl:=Option.some.inj (gCon.symm.trans hg)
 obtain rfl:=Option.some.inj (tCon.symm.trans ht)
 rw [laidEq] at hd
 intro i u hu
 have hi : i < 64:=by
  have h1:=(List.getElem?_eq_some_iff.1 hu).1
  simpa [shaV,shaK] using h1
 obtain ⟨f2,d,q,hd1,hd2⟩:=Go.Lib.array_elem u109 hd i hi
 obtain ⟨n,hc,hx,_⟩:=DataW.trod_int u80 hd2
 obtain ⟨rfl,_⟩:=Prod.mk.inj hx
 rw [c80,Nat.mul_one] at hc
 have h2 : cs.toList[i]? = some (.int .u32 n):=by
  have:=congrArg (·[0]?) hc
  simpa [List.getElem?_take,List.getElem?_drop] using this
 rw [shaV,List.getElem?_map,Option.map_eq_some_iff] at hu
 obtain ⟨z,hz,rfl⟩:=hu
 rw [List.getElem?_map,hz,Option.map_some] at hd1
 have hzn : z = n:=by
  have:=Option.some.inj hd1
  injection this with this
  injection this
 rw [cellM_memOf,show Addr.add ⟨0,0,none⟩ i = ⟨0,i,none⟩ by have:=adr_some 0 0 i;rw [Nat.zero_add] at this;exact this,World.var?_cell hg hv i,<-Array.getElem?_toList,h2,hzn]
theorem door_met (os : Os) (args : Array Value) : laidMetH Tryd.prog laidN ((World.doorLaid Tryd.prog 600 os).forCall (fun _ _=>0) ⟨#[],args,[]⟩).memory :=
 laidMetH_of_parts3 (fuel:=8) (laidMet_of_run' 8 (by kernel_rfl) (by kernel_rfl)) (by kernel_rfl) (by kernel_rfl)
theorem ValueBytes_ok (w0 : World) (M : Mem) (l m n : List Int) (rest : List Nat) (ul um un ur : Value) (hM : GrOk M) (hl : Rd M (dints l) ul) (hm : Rd M (dints m) um) (hn : Rd M (dints n) un) (hr : Rd M (dbytes rest) ur)
  (hli : ∀ x∈l,InI x) (hmi : ∀ x∈m,InI x) (hni : ∀ x∈n,InI x) (hri : ∀ x∈rest,x < 256) : CallOk Tryd.prog w0 M [] 3 [ul,um,un,ur].toArray (fun u M' Γ'=>u = .bool true/\M' = M/\Γ' = []):=by
 refine old_of_call hM (bytes_law hli hmi hni hri) rfl (fun t=>?_) (fun _=>rfl) rfl rfl
 match t with
 | 0=>exact .inr ⟨_,rfl,hl⟩
 | 1=>exact .inr ⟨_,rfl,hm⟩
 | 2=>exact .inr ⟨_,rfl,hn⟩
 | 3=>exact .inr ⟨_,rfl,hr⟩
 | t+4=>exact .inl rfl
end Go.Proofs.YtfgkhhfkodlbpaaDoor
