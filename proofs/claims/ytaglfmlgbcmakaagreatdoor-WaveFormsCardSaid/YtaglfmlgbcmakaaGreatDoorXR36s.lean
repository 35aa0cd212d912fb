/-
  ablautref36: name.
-/
import Derived.Test.YtaglfmlgbcmakaaGreatDoorG26
set_option linter.all false
set_option maxRecDepth 100000
set_option maxHeartbeats 4000000
namespace Go.Proofs.YtaglfmlgbcmakaaGreatDoor
open Go.RowKit Go.Shelf
theorem Aed (s:ByteArray)(w:World)(hs:s.size<=9223372036854775807):
  Calls Tryz.prog 116 #[.string s] w fun e w'=>e= .returned (.bool (Dg s))/\w'=w:=by
 have HN:=hI (Vs s);go_enter Tryz.func116,Tryz.ntmps116;go_wp2
 go_loop [3] (fun i=>∃k:Nat,k<=s.size/\i= .int .i64 k/\Hid ((s.data.toList.take k).all (fun c=>okN c.toNat)=true)) (fun i=>s.size-(intOf i).toNat)
 case atStart=>exact⟨0,Nat.zero_le _,rfl,by simp[Hid]⟩
 case round=>
  obtain⟨k,hk,rfl,a0⟩:=hrel;by_cases hlt:k<s.size
  ·have HT:=hI (Vt s k hlt);have a3:(k:Int)<(s.size:Int):=by omega
   have a2:Hid (okN s[k].toNat=false->Dg s=false):=by
    intro h;rw[HN.out]
    have h1:s.data.toList.all (fun c=>okN c.toNat)=false:=by
     rw[←List.take_append_drop (k+1) s.data.toList,HT.out];simp[h]
    rw[h1,Bool.and_false]
   have a1:Hid (okN s[k].toNat=true->(s.data.toList.take (k+1)).all (fun c=>okN c.toNat)=true):=by
    intro h;rw[HT.out,List.all_append,a0.out];simp[h]
   go_wp2
   all_goals(simp only[Bool.and_eq_true,Bool.not_eq_true',Bool.not_eq_false',decide_eq_false_iff_not,decide_eq_true_eq,beq_eq_false_iff_ne,beq_iff_eq,ne_eq]at*)
   all_goals first
    |(refine⟨⟨k+1,by omega,by go_num,a1.out ?_⟩,by simp[intOf];omega⟩
      unfold okN;simp only[Bool.or_eq_true,Bool.and_eq_true,decide_eq_true_eq,beq_iff_eq];omega)
    |(go_ret
      refine⟨?_,rfl⟩
      have hf:okN s[k].toNat=false:=by
       unfold okN;simp only[Bool.or_eq_false_iff,Bool.and_eq_false_iff,decide_eq_false_iff_not,beq_eq_false_iff_ne];omega
      rw[a2.out hf];rfl)
  ·obtain rfl:k=s.size:=by omega
   have hf:Dg s=(decide (1<=s.size) && decide (s.size<=24)):=by
    rw[HN.out]
    have:=a0.out
    rw[List.take_of_length_le (by simp)]at this;rw[this,Bool.and_true]
   have HF:=hI hf;clear hf;by_cases h1:1<=s.size
   ·have a4:decide ((1:Int)<=(s.size:Int))=true:=decide_eq_true (by omega);go_wp2;go_ret;refine⟨?_,rfl⟩;show Ending.returned (.bool (decide ((s.size:Int)<=24)))=_;rw[HF.out,decide_eq_true h1,Bool.true_and];congr 2;exact decide_eq_decide.2 (by omega)
   ·have a4:decide ((1:Int)<=(s.size:Int))=false:=decide_eq_false (by omega);go_wp2;go_ret;refine⟨?_,rfl⟩;rw[HF.out,decide_eq_false h1];rfl
end Go.Proofs.YtaglfmlgbcmakaaGreatDoor
