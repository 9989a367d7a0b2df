

/- A function of the document's digest, printed: one step. -/
import Derived.Test.YtpgbkeaaklglkaaGreatDoorDa
namespace Go.Proofs.YtpgbkeaaklglkaaGreatDoor.Q
open Go.RowKit Go.Proofs.YtpgbkeaaklglkaaGreatDoorW.PrintWords Go.Proofs.YtpgbkeaaklglkaaGreatDoorW.PrintLast Go.Proofs.YtpgbkeaaklglkaaGreatDoorW.PrintMore
attribute [local go_sem] max2_int min2_int max_two min_two max_three min_three max_four min_four   -- for this text's walks alone
set_option linter.unusedVariables false
set_option linter.unusedSimpArgs false
attribute [local go_sem] xor_ones_u8 xor_ones_u16 xor_ones_u32 xor_ones_u64 cell_twice frozen_twice
abbrev zbaa := @List.setIfInBounds_toArray
abbrev zbab := @List.set_cons_zero
abbrev zbac := @List.set_cons_succ
abbrev zbad := @World.block_lt_of_cell?
abbrev zbae := @blk_drewN
abbrev zbaf := @blk_alloc
abbrev zbag := @blk_drew
abbrev zbah := @below_set
abbrev zbai := @pw_below_drewN
abbrev zbaj := @below_drew1
abbrev zbak := @below_alloc
abbrev zbal := @blk_cell
abbrev zbam := @blk_frozen
abbrev zban := @List.map_toArray
abbrev zbao := @List.map_cons
abbrev zbap := @List.map_nil
abbrev zbaq := @Aside0.mk
abbrev zbar := @Option.bind_eq_some_iff
abbrev zbsq0 : Array Bool := #[false, false, false, false, false, false, false, false, false, false, false, false, false, false, false, false, false, false, false, false, false, false, false, false, false, false, false, false, false, false, false, false, false, false, false, false, false]
abbrev zbsq1 : Array Bool := #[true, false, false, false, false, false, false, false, false, false, false, false, false, false, false, false, false, false, false, false, false, false, false, false, false, false, false, false, false, false, false, false, false, false, false, false, false]
abbrev zbsq2 : Array Bool := #[true, true, false, false, false, false, false, false, false, false, false, false, false, false, false, false, false, false, false, false, false, false, false, false, false, false, false, false, false, false, false, false, false, false, false, false, false]
abbrev zbsq3 : Array Bool := #[true, true, true, false, false, false, false, false, false, false, false, false, false, false, false, false, false, false, false, false, false, false, false, false, false, false, false, false, false, false, false, false, false, false, false, false, false]
abbrev zbsq4 : Array Bool := #[true, true, true, true, false, false, false, false, false, false, false, false, false, false, false, false, false, false, false, false, false, false, false, false, false, false, false, false, false, false, false, false, false, false, false, false, false]
abbrev zbsq5 : Array Bool := #[true, true, true, true, true, false, false, false, false, false, false, false, false, false, false, false, false, false, false, false, false, false, false, false, false, false, false, false, false, false, false, false, false, false, false, false, false]
abbrev zbsq6 : Array Bool := #[true, true, true, true, true, true, false, false, false, false, false, false, false, false, false, false, false, false, false, false, false, false, false, false, false, false, false, false, false, false, false, false, false, false, false, false, false]
abbrev zbsq7 : Array Bool := #[true, true, true, true, true, true, false, false, false, true, false, false, false, false, false, false, false, false, false, false, false, false, false, false, false, false, false, false, false, false, false, false, false, false, false, false, false]
abbrev zbsq8 : Array Bool := #[true, true, true, true, true, true, false, false, false, true, true, false, false, false, false, false, false, false, false, false, false, false, false, false, false, false, false, false, false, false, false, false, false, false, false, false, false]
abbrev zbsq9 : Array Bool := #[true, true, true, true, true, true, false, false, false, true, true, true, false, false, false, false, false, false, false, false, false, false, false, false, false, false, false, false, false, false, false, false, false, false, false, false, false]
abbrev zbsq10 : Array Bool := #[true, true, true, true, true, true, false, false, false, true, true, true, true, false, false, false, false, false, false, false, false, false, false, false, false, false, false, false, false, false, false, false, false, false, false, false, false]
abbrev zbsq11 : Array Bool := #[true, true, true, true, true, true, false, false, false, true, true, true, true, true, false, false, false, false, false, false, false, false, false, false, false, false, false, false, false, false, false, false, false, false, false, false, false]
abbrev zbsq12 : Array Bool := #[true, true, true, true, true, true, false, false, false, true, true, true, true, true, false, false, false, false, true, false, false, false, false, false, false, false, false, false, false, false, false, false, false, false, false, false, false]
abbrev zbsq13 : Array Bool := #[true, true, true, true, true, true, false, false, false, true, true, true, true, true, false, false, false, false, true, true, false, false, false, false, false, false, false, false, false, false, false, false, false, false, false, false, false]
abbrev zbsq14 : Array Bool := #[true, true, true, true, true, true, false, false, false, true, true, true, true, true, false, false, false, false, true, true, true, false, false, false, false, false, false, false, false, false, false, false, false, false, false, false, false]
abbrev zbsq15 : Array Bool := #[true, true, true, true, true, true, false, false, false, true, true, true, true, true, false, false, false, false, true, true, true, true, false, false, false, false, false, false, false, false, false, false, false, false, false, false, false]
abbrev zbsq16 : Array Bool := #[true, true, true, true, true, true, false, false, false, true, true, true, true, true, false, false, false, false, true, true, true, true, true, false, false, false, false, false, false, false, false, false, false, false, false, false, false]
abbrev zbsq17 : Array Bool := #[true, true, true, true, true, true, false, false, false, true, true, true, true, true, false, false, false, false, true, true, true, true, true, false, false, false, false, true, false, false, false, false, false, false, false, false, false]
abbrev zbsq18 : Array Bool := #[true, true, true, true, true, true, false, false, false, true, true, true, true, true, false, false, false, false, true, true, true, true, true, false, false, false, false, true, true, false, false, false, false, false, false, false, false]
abbrev zbsq19 : Array Bool := #[true, true, true, true, true, true, false, false, false, true, true, true, true, true, false, false, false, false, true, true, true, true, true, false, false, false, false, true, true, true, false, false, false, false, false, false, false]
abbrev zbsq20 : Array Bool := #[true, true, true, true, true, true, false, false, false, true, true, true, true, true, false, false, false, false, true, true, true, true, true, false, false, false, false, true, true, true, true, false, false, false, false, false, false]
abbrev zbsq21 : Array Bool := #[true, true, true, true, true, true, false, false, false, true, true, true, true, true, false, false, false, false, true, true, true, true, true, false, false, false, false, true, true, true, true, true, false, false, false, false, false]
abbrev zbsq22 : Array Bool := #[true, true, true, true, true, true, true, false, false, true, true, true, true, true, false, false, false, false, true, true, true, true, true, false, false, false, false, true, true, true, true, true, false, false, false, false, false]
abbrev zbsq23 : Array Bool := #[true, true, true, true, true, true, true, true, false, true, true, true, true, true, false, false, false, false, true, true, true, true, true, false, false, false, false, true, true, true, true, true, false, false, false, false, false]
abbrev zbsq24 : Array Bool := #[true, true, true, true, true, true, true, true, true, true, true, true, true, true, false, false, false, false, true, true, true, true, true, false, false, false, false, true, true, true, true, true, false, false, false, false, false]
abbrev zbsq25 : Array Bool := #[true, true, true, true, true, true, true, true, true, true, true, true, true, true, true, false, false, false, true, true, true, true, true, false, false, false, false, true, true, true, true, true, false, false, false, false, false]
abbrev zbsq26 : Array Bool := #[true, true, true, true, true, true, true, true, true, true, true, true, true, true, true, true, false, false, true, true, true, true, true, false, false, false, false, true, true, true, true, true, false, false, false, false, false]
abbrev zbsq27 : Array Bool := #[true, true, true, true, true, true, true, true, true, true, true, true, true, true, true, true, true, false, true, true, true, true, true, false, false, false, false, true, true, true, true, true, false, false, false, false, false]
abbrev zbsq28 : Array Bool := #[true, true, true, true, true, true, true, true, true, true, true, true, true, true, true, true, true, true, true, true, true, true, true, false, false, false, false, true, true, true, true, true, false, false, false, false, false]
abbrev zbsq29 : Array Bool := #[true, true, true, true, true, true, true, true, true, true, true, true, true, true, true, true, true, true, true, true, true, true, true, true, false, false, false, true, true, true, true, true, false, false, false, false, false]
abbrev zbsq30 : Array Bool := #[true, true, true, true, true, true, true, true, true, true, true, true, true, true, true, true, true, true, true, true, true, true, true, true, true, false, false, true, true, true, true, true, false, false, false, false, false]
abbrev zbsq31 : Array Bool := #[true, true, true, true, true, true, true, true, true, true, true, true, true, true, true, true, true, true, true, true, true, true, true, true, true, true, false, true, true, true, true, true, false, false, false, false, false]
abbrev zbsq32 : Array Bool := #[true, true, true, true, true, true, true, true, true, true, true, true, true, true, true, true, true, true, true, true, true, true, true, true, true, true, true, true, true, true, true, true, false, false, false, false, false]
abbrev zbsq33 : Array Bool := #[true, true, true, true, true, true, true, true, true, true, true, true, true, true, true, true, true, true, true, true, true, true, true, true, true, true, true, true, true, true, true, true, true, false, false, false, false]
abbrev zbsq34 : Array Bool := #[true, true, true, true, true, true, true, true, true, true, true, true, true, true, true, true, true, true, true, true, true, true, true, true, true, true, true, true, true, true, true, true, true, true, false, false, false]
abbrev zbsq35 : Array Bool := #[true, true, true, true, true, true, true, true, true, true, true, true, true, true, true, true, true, true, true, true, true, true, true, true, true, true, true, true, true, true, true, true, true, true, true, false, false]
abbrev zbsq36 : Array Bool := #[true, true, true, true, true, true, true, true, true, true, true, true, true, true, true, true, true, true, true, true, true, true, true, true, true, true, true, true, true, true, true, true, true, true, true, true, false]
abbrev zbsq37 : Array Bool := #[true, true, true, true, true, true, true, true, true, true, true, true, true, true, true, true, true, true, true, true, true, true, true, true, true, true, true, true, true, true, true, true, true, true, true, true, true]
abbrev zbsq38 : Array Bool := #[false, false, false, false, false, false, false, false, false, false, false, false, false, false, false, false, false, false, false, false, false]
abbrev zbsq39 : Array Bool := #[true, false, false, false, false, false, false, false, false, false, false, false, false, false, false, false, false, false, false, false, false]
abbrev zbsq40 : Array Bool := #[true, true, false, false, false, false, false, false, false, false, false, false, false, false, false, false, false, false, false, false, false]
abbrev zbsq41 : Array Bool := #[true, true, true, false, false, false, false, false, false, false, false, false, false, false, false, false, false, false, false, false, false]
abbrev zbsq42 : Array Bool := #[true, true, true, true, false, false, false, false, false, false, false, false, false, false, false, false, false, false, false, false, false]
abbrev zbsq43 : Array Bool := #[true, true, true, true, false, false, true, false, false, false, false, false, false, false, false, false, false, false, false, false, false]
abbrev zbsq44 : Array Bool := #[true, true, true, true, false, false, true, true, false, false, false, false, false, false, false, false, false, false, false, false, false]
abbrev zbsq45 : Array Bool := #[true, true, true, true, false, false, true, true, true, false, false, false, false, false, false, false, false, false, false, false, false]
abbrev zbsq46 : Array Bool := #[true, true, true, true, false, false, true, true, true, true, false, false, false, false, false, false, false, false, false, false, false]
abbrev zbsq47 : Array Bool := #[true, true, true, true, false, false, true, true, true, true, false, false, false, true, false, false, false, false, false, false, false]
abbrev zbsq48 : Array Bool := #[true, true, true, true, false, false, true, true, true, true, false, false, false, true, true, false, false, false, false, false, false]
abbrev zbsq49 : Array Bool := #[true, true, true, true, false, false, true, true, true, true, false, false, false, true, true, true, false, false, false, false, false]
abbrev zbsq50 : Array Bool := #[true, true, true, true, false, false, true, true, true, true, false, false, false, true, true, true, true, false, false, false, false]
abbrev zbsq51 : Array Bool := #[true, true, true, true, true, false, true, true, true, true, false, false, false, true, true, true, true, false, false, false, false]
abbrev zbsq52 : Array Bool := #[true, true, true, true, true, false, true, true, true, true, true, false, false, true, true, true, true, false, false, false, false]
abbrev zbsq53 : Array Bool := #[true, true, true, true, true, false, true, true, true, true, true, false, false, true, true, true, true, true, false, false, false]
abbrev zbsq54 : Array Bool := #[true, true, true, true, true, false, true, true, true, true, true, false, false, true, true, true, true, true, true, false, false]
abbrev zbsq55 : Array Bool := #[true, true, true, true, true, true, true, true, true, true, true, false, false, true, true, true, true, true, true, false, false]
abbrev zbsq56 : Array Bool := #[true, true, true, true, true, true, true, true, true, true, true, true, false, true, true, true, true, true, true, false, false]
abbrev zbsq57 : Array Bool := #[true, true, true, true, true, true, true, true, true, true, true, true, true, true, true, true, true, true, true, false, false]
abbrev zbsq58 : Array Bool := #[true, true, true, true, true, true, true, true, true, true, true, true, true, true, true, true, true, true, true, true, false]
abbrev zbsq59 : Array Bool := #[true, true, true, true, true, true, true, true, true, true, true, true, true, true, true, true, true, true, true, true, true]
abbrev zbsq60 : Array Bool := #[false, false, false, false, false, false, false, false, false, false, false, false, false, false, false, false, false, false, false]
abbrev zbsq61 : Array Bool := #[true, false, false, false, false, false, false, false, false, false, false, false, false, false, false, false, false, false, false]
abbrev zbsq62 : Array Bool := #[true, true, false, false, false, false, false, false, false, false, false, false, false, false, false, false, false, false, false]
abbrev zbsq63 : Array Bool := #[true, true, true, false, false, false, false, false, false, false, false, false, false, false, false, false, false, false, false]
abbrev zbsq64 : Array Bool := #[true, true, true, true, false, false, false, false, false, false, false, false, false, false, false, false, false, false, false]
abbrev zbsq65 : Array Bool := #[true, true, true, true, true, false, false, false, false, false, false, false, false, false, false, false, false, false, false]
abbrev zbsq66 : Array Bool := #[true, true, true, true, true, true, false, false, false, false, false, false, false, false, false, false, false, false, false]
abbrev zbsq67 : Array Bool := #[true, true, true, true, true, true, false, true, false, false, false, false, false, false, false, false, false, false, false]
abbrev zbsq68 : Array Bool := #[true, true, true, true, true, true, false, true, false, true, false, false, false, false, false, false, false, false, false]
abbrev zbsq69 : Array Bool := #[true, true, true, true, true, true, false, true, false, true, true, false, false, false, false, false, false, false, false]
abbrev zbsq70 : Array Bool := #[true, true, true, true, true, true, false, true, false, true, true, true, false, false, false, false, false, false, false]
abbrev zbsq71 : Array Bool := #[true, true, true, true, true, true, false, true, false, true, true, true, true, false, false, false, false, false, false]
abbrev zbsq72 : Array Bool := #[true, true, true, true, true, true, false, true, false, true, true, true, true, false, false, true, false, false, false]
abbrev zbsq73 : Array Bool := #[true, true, true, true, true, true, true, true, false, true, true, true, true, false, false, true, false, false, false]
abbrev zbsq74 : Array Bool := #[true, true, true, true, true, true, true, true, true, true, true, true, true, false, false, true, false, false, false]
abbrev zbsq75 : Array Bool := #[true, true, true, true, true, true, true, true, true, true, true, true, true, true, false, true, false, false, false]
abbrev zbsq76 : Array Bool := #[true, true, true, true, true, true, true, true, true, true, true, true, true, true, true, true, false, false, false]
abbrev zbsq77 : Array Bool := #[true, true, true, true, true, true, true, true, true, true, true, true, true, true, true, true, true, false, false]
abbrev zbsq78 : Array Bool := #[true, true, true, true, true, true, true, true, true, true, true, true, true, true, true, true, true, true, false]
abbrev zbsq79 : Array Bool := #[true, true, true, true, true, true, true, true, true, true, true, true, true, true, true, true, true, true, true]
abbrev zbsq80 : Array Bool := #[false, false, false, false, false, false, false, false, false, false, false, false]
abbrev zbsq81 : Array Bool := #[true, false, false, false, false, false, false, false, false, false, false, false]
abbrev zbsq82 : Array Bool := #[true, false, true, false, false, false, false, false, false, false, false, false]
abbrev zbsq83 : Array Bool := #[true, false, true, false, true, false, false, false, false, false, false, false]
abbrev zbsq84 : Array Bool := #[true, false, true, false, true, false, true, false, false, false, false, false]
abbrev zbsq85 : Array Bool := #[true, true, true, false, true, false, true, false, false, false, false, false]
abbrev zbsq86 : Array Bool := #[true, true, true, false, true, false, true, false, true, false, false, false]
abbrev zbsq87 : Array Bool := #[true, true, true, true, true, false, true, false, true, false, false, false]
abbrev zbsq88 : Array Bool := #[true, true, true, true, true, false, true, false, true, true, false, false]
abbrev zbsq89 : Array Bool := #[true, true, true, true, true, true, true, false, true, true, false, false]
abbrev zbsq90 : Array Bool := #[true, true, true, true, true, true, true, false, true, true, true, false]
abbrev zbsq91 : Array Bool := #[true, true, true, true, true, true, true, true, true, true, true, false]
abbrev zbsq92 : Array Bool := #[true, true, true, true, true, true, true, true, true, true, true, true]
abbrev zbsq93 : Array Bool := #[false, false, false, false, false, false, false, false, false, false, false, false, false, false, false, false, false, false, false, false, false, false, false, false, false, false, false, false]
abbrev zbsq94 : Array Bool := #[true, false, false, false, false, false, false, false, false, false, false, false, false, false, false, false, false, false, false, false, false, false, false, false, false, false, false, false]
abbrev zbsq95 : Array Bool := #[true, true, false, false, false, false, false, false, false, false, false, false, false, false, false, false, false, false, false, false, false, false, false, false, false, false, false, false]
abbrev zbsq96 : Array Bool := #[true, true, false, true, false, false, false, false, false, false, false, false, false, false, false, false, false, false, false, false, false, false, false, false, false, false, false, false]
abbrev zbsq97 : Array Bool := #[true, true, false, true, false, false, true, false, false, false, false, false, false, false, false, false, false, false, false, false, false, false, false, false, false, false, false, false]
abbrev zbsq98 : Array Bool := #[true, true, false, true, false, false, true, false, false, false, true, false, false, false, false, false, false, false, false, false, false, false, false, false, false, false, false, false]
abbrev zbsq99 : Array Bool := #[true, true, false, true, false, false, true, false, false, false, true, true, false, false, false, false, false, false, false, false, false, false, false, false, false, false, false, false]
abbrev zbsq100 : Array Bool := #[true, true, false, true, false, false, true, false, false, false, true, true, true, false, false, false, false, false, false, false, false, false, false, false, false, false, false, false]
abbrev zbsq101 : Array Bool := #[true, true, false, true, false, false, true, false, false, false, true, true, true, true, false, false, false, false, false, false, false, false, false, false, false, false, false, false]
abbrev zbsq102 : Array Bool := #[true, true, false, true, false, false, true, false, false, false, true, true, true, true, true, false, false, false, false, false, false, false, false, false, false, false, false, false]
abbrev zbsq103 : Array Bool := #[true, true, false, true, false, false, true, false, false, false, true, true, true, true, true, true, false, false, false, false, false, false, false, false, false, false, false, false]
abbrev zbsq104 : Array Bool := #[true, true, false, true, false, false, true, false, false, false, true, true, true, true, true, true, true, false, false, false, false, false, false, false, false, false, false, false]
abbrev zbsq105 : Array Bool := #[true, true, false, true, false, false, true, false, false, false, true, true, true, true, true, true, true, true, false, false, false, false, false, false, false, false, false, false]
abbrev zbsq106 : Array Bool := #[true, true, false, true, false, false, true, false, false, false, true, true, true, true, true, true, true, true, false, true, false, false, false, false, false, false, false, false]
abbrev zbsq107 : Array Bool := #[true, true, false, true, false, false, true, false, false, false, true, true, true, true, true, true, true, true, false, true, false, false, true, false, false, false, false, false]
abbrev zbsq108 : Array Bool := #[true, true, false, true, false, false, true, false, false, false, true, true, true, true, true, true, true, true, false, true, false, false, true, true, false, false, false, false]
abbrev zbsq109 : Array Bool := #[true, true, false, true, false, false, true, false, false, false, true, true, true, true, true, true, true, true, false, true, false, false, true, true, true, false, false, false]
abbrev zbsq110 : Array Bool := #[true, true, false, true, false, false, true, false, false, false, true, true, true, true, true, true, true, true, false, true, false, false, true, true, true, true, false, false]
abbrev zbsq111 : Array Bool := #[true, true, true, true, false, false, true, false, false, false, true, true, true, true, true, true, true, true, false, true, false, false, true, true, true, true, false, false]
abbrev zbsq112 : Array Bool := #[true, true, true, true, true, false, true, false, false, false, true, true, true, true, true, true, true, true, false, true, false, false, true, true, true, true, false, false]
abbrev zbsq113 : Array Bool := #[true, true, true, true, true, true, true, false, false, false, true, true, true, true, true, true, true, true, false, true, false, false, true, true, true, true, false, false]
abbrev zbsq114 : Array Bool := #[true, true, true, true, true, true, true, true, false, false, true, true, true, true, true, true, true, true, false, true, false, false, true, true, true, true, false, false]
abbrev zbsq115 : Array Bool := #[true, true, true, true, true, true, true, true, true, false, true, true, true, true, true, true, true, true, false, true, false, false, true, true, true, true, false, false]
abbrev zbsq116 : Array Bool := #[true, true, true, true, true, true, true, true, true, true, true, true, true, true, true, true, true, true, false, true, false, false, true, true, true, true, false, false]
abbrev zbsq117 : Array Bool := #[true, true, true, true, true, true, true, true, true, true, true, true, true, true, true, true, true, true, true, true, false, false, true, true, true, true, false, false]
abbrev zbsq118 : Array Bool := #[true, true, true, true, true, true, true, true, true, true, true, true, true, true, true, true, true, true, true, true, true, false, true, true, true, true, false, false]
abbrev zbsq119 : Array Bool := #[true, true, true, true, true, true, true, true, true, true, true, true, true, true, true, true, true, true, true, true, true, true, true, true, true, true, false, false]
abbrev zbsq120 : Array Bool := #[true, true, true, true, true, true, true, true, true, true, true, true, true, true, true, true, true, true, true, true, true, true, true, true, true, true, true, false]
abbrev zbsq121 : Array Bool := #[true, true, true, true, true, true, true, true, true, true, true, true, true, true, true, true, true, true, true, true, true, true, true, true, true, true, true, true]
/-! ### stowageref03_step: function 91 -/
mutual
def stowageref03_step.l0 : Nat → List Int → List Int → Int → Int → Int → Int → Int → Int → Int → Int → Int → Option (Int × Int × Int × Int × Int × Int × Int × Int)
 | 0, _, _, _, _, _, _, _, _, _, _, _ => none
 | k + 1, x1, x5, x6, zbbj, zbbk, zbbl, zbbm, zbbn, zbbo, zbbp, zbbq => if x6 < 64 then (if x6 < 16 then (if 0 ≤ (wrap64 (4 * x6)) then (if (wrap64 (4 * x6)) < (x1.length : Int) then (if 0 ≤ (wrap64 ((wrap64 (4 * x6)) + 1)) then (if (wrap64 ((wrap64 (4 * x6)) + 1)) < (x1.length : Int) then (if 0 ≤ (wrap64 ((wrap64 (4 * x6)) + 2)) then (if (wrap64 ((wrap64 (4 * x6)) + 2)) < (x1.length : Int) then (if 0 ≤ (wrap64 ((wrap64 (4 * x6)) + 3)) then (if (wrap64 ((wrap64 (4 * x6)) + 3)) < (x1.length : Int) then (if 0 ≤ x6 then (if x6 < (x5.length : Int) then (stowageref03_step.l0 k x1 (x5.set (x6 : Int).toNat ((((((((((rd x1 (wrap64 (4 * x6))) % 4294967296) * 16777216) % 4294967296) + ((((rd x1 (wrap64 ((wrap64 (4 * x6)) + 1))) % 4294967296) * 65536) % 4294967296)) % 4294967296) + ((((rd x1 (wrap64 ((wrap64 (4 * x6)) + 2))) % 4294967296) * 256) % 4294967296)) % 4294967296) + ((rd x1 (wrap64 ((wrap64 (4 * x6)) + 3))) % 4294967296)) % 4294967296)) (wrap64 (x6 + 1)) zbbj zbbk zbbl zbbm zbbn zbbo zbbp zbbq) else (none)) else (none)) else (none)) else (none)) else (none)) else (none)) else (none)) else (none)) else (none)) else (none)) else (if 0 ≤ (wrap64 (x6 - 15)) then (if (wrap64 (x6 - 15)) < (x5.length : Int) then ((stowageref03_turn.f (rd x5 (wrap64 (x6 - 15))) 7).bind fun t354 => ((stowageref03_turn.f (rd x5 (wrap64 (x6 - 15))) 18).bind fun t356 => (if 0 ≤ (wrap64 (x6 - 2)) then (if (wrap64 (x6 - 2)) < (x5.length : Int) then ((stowageref03_turn.f (rd x5 (wrap64 (x6 - 2))) 17).bind fun t359 => ((stowageref03_turn.f (rd x5 (wrap64 (x6 - 2))) 19).bind fun t361 => (if 0 ≤ (wrap64 (x6 - 16)) then (if (wrap64 (x6 - 16)) < (x5.length : Int) then (if 0 ≤ (wrap64 (x6 - 7)) then (if (wrap64 (x6 - 7)) < (x5.length : Int) then (if 0 ≤ x6 then (if x6 < (x5.length : Int) then (stowageref03_step.l0 k x1 (x5.set (x6 : Int).toNat (((((((rd x5 (wrap64 (x6 - 16))) + (Go.bits .xor .u32 (Go.bits .xor .u32 t354 t356) ((rd x5 (wrap64 (x6 - 15))) / 8))) % 4294967296) + (rd x5 (wrap64 (x6 - 7)))) % 4294967296) + (Go.bits .xor .u32 (Go.bits .xor .u32 t359 t361) ((rd x5 (wrap64 (x6 - 2))) / 1024))) % 4294967296)) (wrap64 (x6 + 1)) zbbj zbbk zbbl zbbm zbbn zbbo zbbp zbbq) else (none)) else (none)) else (none)) else (none)) else (none)) else (none)))) else (none)) else (none)))) else (none)) else (none))) else (stowageref03_step.l1 k x5 zbbj zbbk zbbl zbbm zbbn zbbo zbbp zbbq 0 zbbj zbbk zbbl zbbm zbbn zbbo zbbp zbbq)
def stowageref03_step.l1 : Nat → List Int → Int → Int → Int → Int → Int → Int → Int → Int → Int → Int → Int → Int → Int → Int → Int → Int → Int → Option (Int × Int × Int × Int × Int × Int × Int × Int)
 | 0, _, _, _, _, _, _, _, _, _, _, _, _, _, _, _, _, _, _ => none
 | k + 1, x5, x9, x10, x11, x12, x13, x14, x15, x16, x17, zbbj, zbbk, zbbl, zbbm, zbbn, zbbo, zbbp, zbbq => if x17 < 64 then ((stowageref03_turn.f x13 6).bind fun t366 => ((stowageref03_turn.f x13 11).bind fun t367 => ((stowageref03_turn.f x13 25).bind fun t368 => ((stowageref03_number.f x17).bind fun t369 => (if 0 ≤ x17 then (if x17 < (x5.length : Int) then ((stowageref03_turn.f x9 2).bind fun t371 => ((stowageref03_turn.f x9 13).bind fun t372 => ((stowageref03_turn.f x9 22).bind fun t373 => (stowageref03_step.l1 k x5 ((((((((((x16 + (Go.bits .xor .u32 (Go.bits .xor .u32 t366 t367) t368)) % 4294967296) + (Go.bits .xor .u32 (Go.bits .and .u32 x13 x14) (Go.bits .and .u32 ((4294967295 - x13) % 4294967296) x15))) % 4294967296) + t369) % 4294967296) + (rd x5 x17)) % 4294967296) + (((Go.bits .xor .u32 (Go.bits .xor .u32 t371 t372) t373) + (Go.bits .xor .u32 (Go.bits .xor .u32 (Go.bits .and .u32 x9 x10) (Go.bits .and .u32 x9 x11)) (Go.bits .and .u32 x10 x11))) % 4294967296)) % 4294967296) x9 x10 x11 ((x12 + ((((((((x16 + (Go.bits .xor .u32 (Go.bits .xor .u32 t366 t367) t368)) % 4294967296) + (Go.bits .xor .u32 (Go.bits .and .u32 x13 x14) (Go.bits .and .u32 ((4294967295 - x13) % 4294967296) x15))) % 4294967296) + t369) % 4294967296) + (rd x5 x17)) % 4294967296)) % 4294967296) x13 x14 x15 (wrap64 (x17 + 1)) zbbj zbbk zbbl zbbm zbbn zbbo zbbp zbbq)))) else (none)) else (none)))))) else (some ((zbbj + x9) % 4294967296, (zbbk + x10) % 4294967296, (zbbl + x11) % 4294967296, (zbbm + x12) % 4294967296, (zbbn + x13) % 4294967296, (zbbo + x14) % 4294967296, (zbbp + x15) % 4294967296, (zbbq + x16) % 4294967296))
end
def stowageref03_step.f (k : Nat) (a0_0 : Int) (a0_1 : Int) (a0_2 : Int) (a0_3 : Int) (a0_4 : Int) (a0_5 : Int) (a0_6 : Int) (a0_7 : Int) (l1 : List Int) : Option (Int × Int × Int × Int × Int × Int × Int × Int) := stowageref03_step.l0 k l1 (List.replicate 64 0) 0 a0_0 a0_1 a0_2 a0_3 a0_4 a0_5 a0_6 a0_7
theorem stowageref03_step.mono_l : ∀ k, (∀ y0 y1 y2 y3 y4 y5 y6 y7 y8 y9 y10, LeO (stowageref03_step.l0 k y0 y1 y2 y3 y4 y5 y6 y7 y8 y9 y10) (stowageref03_step.l0 (k + 1) y0 y1 y2 y3 y4 y5 y6 y7 y8 y9 y10)) ∧ (∀ y0 y1 y2 y3 y4 y5 y6 y7 y8 y9 y10 y11 y12 y13 y14 y15 y16 y17, LeO (stowageref03_step.l1 k y0 y1 y2 y3 y4 y5 y6 y7 y8 y9 y10 y11 y12 y13 y14 y15 y16 y17) (stowageref03_step.l1 (k + 1) y0 y1 y2 y3 y4 y5 y6 y7 y8 y9 y10 y11 y12 y13 y14 y15 y16 y17))
 | 0 => ⟨fun _ _ _ _ _ _ _ _ _ _ _ r h => by simp [stowageref03_step.l0] at h, fun _ _ _ _ _ _ _ _ _ _ _ _ _ _ _ _ _ _ r h => by simp [stowageref03_step.l1] at h⟩
 | k + 1 => by
  obtain ⟨ih0, ih1⟩ := stowageref03_step.mono_l k
  refine ⟨?_, ?_⟩
  ·intro y0 y1 y2 y3 y4 y5 y6 y7 y8 y9 y10
   unfold stowageref03_step.l0
   repeat' first
   | (with_reducible exact ih0 _ _ _ _ _ _ _ _ _ _ _)
   | (with_reducible exact ih1 _ _ _ _ _ _ _ _ _ _ _ _ _ _ _ _ _ _)
   | (with_reducible exact LeO.refl _)
   | (with_reducible exact LeO.none _)
   | (with_reducible refine LeO.ite ?_ ?_)
   | (with_reducible refine LeO.bind ?_ (fun _ => ?_))
   | exact ih0 _ _ _ _ _ _ _ _ _ _ _
   | exact ih1 _ _ _ _ _ _ _ _ _ _ _ _ _ _ _ _ _ _
   | exact LeO.none _
   | refine LeO.ite ?_ ?_
   | refine LeO.bind ?_ (fun _ => ?_)
  ·intro y0 y1 y2 y3 y4 y5 y6 y7 y8 y9 y10 y11 y12 y13 y14 y15 y16 y17
   unfold stowageref03_step.l1
   repeat' first
   | (with_reducible exact ih0 _ _ _ _ _ _ _ _ _ _ _)
   | (with_reducible exact ih1 _ _ _ _ _ _ _ _ _ _ _ _ _ _ _ _ _ _)
   | (with_reducible exact LeO.refl _)
   | (with_reducible exact LeO.none _)
   | (with_reducible refine LeO.ite ?_ ?_)
   | (with_reducible refine LeO.bind ?_ (fun _ => ?_))
   | exact ih0 _ _ _ _ _ _ _ _ _ _ _
   | exact ih1 _ _ _ _ _ _ _ _ _ _ _ _ _ _ _ _ _ _
   | exact LeO.none _
   | refine LeO.ite ?_ ?_
   | refine LeO.bind ?_ (fun _ => ?_)
theorem stowageref03_step.mono : ∀ a0 a1 a2 a3 a4 a5 a6 a7 a8 k, LeO (stowageref03_step.f k a0 a1 a2 a3 a4 a5 a6 a7 a8) (stowageref03_step.f (k + 1) a0 a1 a2 a3 a4 a5 a6 a7 a8) := by
 intro a0 a1 a2 a3 a4 a5 a6 a7 a8 k
 obtain ⟨ih0, ih1⟩ := stowageref03_step.mono_l k
 unfold stowageref03_step.f
 repeat' first
   | (with_reducible exact ih0 _ _ _ _ _ _ _ _ _ _ _)
   | (with_reducible exact ih1 _ _ _ _ _ _ _ _ _ _ _ _ _ _ _ _ _ _)
   | (with_reducible exact LeO.refl _)
   | (with_reducible exact LeO.none _)
   | (with_reducible refine LeO.ite ?_ ?_)
   | (with_reducible refine LeO.bind ?_ (fun _ => ?_))
   | exact ih0 _ _ _ _ _ _ _ _ _ _ _
   | exact ih1 _ _ _ _ _ _ _ _ _ _ _ _ _ _ _ _ _ _
   | exact LeO.none _
   | refine LeO.ite ?_ ?_
   | refine LeO.bind ?_ (fun _ => ?_)
def stowageref03_step.T6 : Bool × List (List Nat × List Nat) := (true, [([], []), ([], []), ([], []), ([], []), ([3], [3]), ([2, 4], [2, 4]), ([5], [5]), ([6], [6]), ([7], [7]), ([], []), ([], []), ([10], [10]), ([11], [11]), ([9, 12], [9, 12]), ([13], [13]), ([14], [14]), ([15], [15]), ([8, 16], [8, 16]), ([], []), ([], []), ([19], [19]), ([20], [20]), ([18, 21], [18, 21]), ([22], [22]), ([23], [23]), ([24], [24]), ([17, 25], [17, 25]), ([], []), ([], []), ([28], [28]), ([29], [29]), ([27, 30], [27, 30]), ([31], [31]), ([32], [32]), ([26, 33], [26, 33]), ([0, 1, 0, 1, 2, 3, 4, 5, 6, 7, 8, 9, 10, 11, 12, 13, 14, 15, 16, 17, 18, 19, 20, 21, 22, 23, 24, 25, 26, 27, 28, 29, 30, 31, 32, 33, 34], [0, 1]), ([35, 34, 0, 1, 2, 3, 4, 5, 6, 7, 8, 9, 10, 11, 12, 13, 14, 15, 16, 17, 18, 19, 20, 21, 22, 23, 24, 25, 26, 27, 28, 29, 30, 31, 32, 33, 34], [34, 35])])
def stowageref03_step.B6 : List Nat := [0, 0, 0, 0, 8, 28, 60, 124, 252, 0, 0, 1024, 3072, 7680, 15872, 32256, 65024, 131068, 0, 0, 524288, 1572864, 3932160, 8126464, 16515072, 33292288, 67108860, 0, 0, 268435456, 805306368, 2013265920, 4160749568, 8455716864, 17179869180, 34359738367, 68719476735]
theorem stowageref03_step.tab6 : rtab .any (opsOf Tryz.f91 6) = stowageref03_step.T6 := by kernel_rfl
theorem stowageref03_step.bits6 : waitsOk stowageref03_step.T6.2 stowageref03_step.B6 = true := by kernel_rfl
def stowageref03_step.T7 : Bool × List (List Nat × List Nat) := (true, [([], []), ([], []), ([1], [1]), ([0, 2], [0, 2]), ([3], [3]), ([4], [4]), ([], []), ([], []), ([7], [7]), ([6, 8], [6, 8]), ([9], [9]), ([10, 5], [10]), ([5, 11], [5, 11]), ([], []), ([], []), ([14], [14]), ([13, 15], [13, 15]), ([16], [16]), ([17], [17]), ([12, 18], [12, 18]), ([19, 11, 0, 1, 2, 3, 4, 5, 6, 7, 8, 9, 10, 11, 12, 13, 14, 15, 16, 17, 18, 19], [19])])
def stowageref03_step.B7 : List Nat := [0, 0, 2, 7, 15, 31, 0, 0, 128, 448, 960, 2047, 4095, 0, 0, 16384, 57344, 122880, 253952, 524287, 1048575]
theorem stowageref03_step.tab7 : rtab .any (opsOf Tryz.f91 7) = stowageref03_step.T7 := by kernel_rfl
theorem stowageref03_step.bits7 : waitsOk stowageref03_step.T7.2 stowageref03_step.B7 = true := by kernel_rfl
def stowageref03_step.T8 : Bool × List (List Nat × List Nat) := (true, [([], []), ([], []), ([1], [1]), ([0, 2], [0, 2]), ([3], [3]), ([4], [4]), ([], []), ([], []), ([7], [7]), ([6, 8], [6, 8]), ([9], [9]), ([10, 5], [10]), ([5, 11], [5, 11]), ([], []), ([], []), ([14], [14]), ([13, 15], [13, 15]), ([16], [16]), ([17], [17]), ([12, 18], [12, 18]), ([19, 11, 0, 1, 2, 3, 4, 5, 6, 7, 8, 9, 10, 11, 12, 13, 14, 15, 16, 17, 18, 19], [19])])
def stowageref03_step.B8 : List Nat := [0, 0, 2, 7, 15, 31, 0, 0, 128, 448, 960, 2047, 4095, 0, 0, 16384, 57344, 122880, 253952, 524287, 1048575]
theorem stowageref03_step.tab8 : rtab .any (opsOf Tryz.f91 8) = stowageref03_step.T8 := by kernel_rfl
theorem stowageref03_step.bits8 : waitsOk stowageref03_step.T8.2 stowageref03_step.B8 = true := by kernel_rfl
def stowageref03_step.T9 : Bool × List (List Nat × List Nat) := (true, [([], []), ([], []), ([], []), ([], []), ([3], [3]), ([2, 4], [2, 4]), ([5], [5]), ([], []), ([6, 7], [6, 7]), ([], []), ([], []), ([10], [10]), ([9, 11], [9, 11]), ([12], [12]), ([8, 13], [8, 13]), ([], []), ([14, 15], [14, 15]), ([0, 1, 0, 1, 2, 3, 4, 5, 6, 7, 8, 9, 10, 11, 12, 13, 14, 15, 16], [0, 1]), ([17, 16, 0, 1, 2, 3, 4, 5, 6, 7, 8, 9, 10, 11, 12, 13, 14, 15, 16], [16, 17])])
def stowageref03_step.B9 : List Nat := [0, 0, 0, 0, 8, 28, 60, 0, 252, 0, 0, 1024, 3584, 7680, 16380, 0, 65532, 131071, 262143]
theorem stowageref03_step.tab9 : rtab .any (opsOf Tryz.f91 9) = stowageref03_step.T9 := by kernel_rfl
theorem stowageref03_step.bits9 : waitsOk stowageref03_step.T9.2 stowageref03_step.B9 = true := by kernel_rfl
def stowageref03_step.T10 : Bool × List (List Nat × List Nat) := (true, [([], []), ([0], [0]), ([], []), ([2], [2]), ([], []), ([4], [4]), ([], []), ([6], [6]), ([1, 0, 1], [1]), ([3, 8, 0, 1, 2, 3, 8], [3]), ([5, 9, 0, 1, 2, 3, 4, 5, 8, 9], [5]), ([7, 10, 0, 1, 2, 3, 4, 5, 6, 7, 8, 9, 10], [7])])
def stowageref03_step.B10 : List Nat := [0, 1, 0, 4, 0, 16, 0, 64, 3, 271, 831, 2047]
theorem stowageref03_step.tab10 : rtab .any (opsOf Tryz.f91 10) = stowageref03_step.T10 := by kernel_rfl
theorem stowageref03_step.bits10 : waitsOk stowageref03_step.T10.2 stowageref03_step.B10 = true := by kernel_rfl
def stowageref03_step.T11 : Bool × List (List Nat × List Nat) := (true, [([], []), ([0], [0]), ([], []), ([2], [2]), ([], []), ([4], [4]), ([], []), ([6], [6]), ([1, 0, 1], [1]), ([3, 8, 0, 1, 2, 3, 8], [3]), ([5, 9, 0, 1, 2, 3, 4, 5, 8, 9], [5]), ([7, 10, 0, 1, 2, 3, 4, 5, 6, 7, 8, 9, 10], [7])])
def stowageref03_step.B11 : List Nat := [0, 1, 0, 4, 0, 16, 0, 64, 3, 271, 831, 2047]
theorem stowageref03_step.tab11 : rtab .any (opsOf Tryz.f91 11) = stowageref03_step.T11 := by kernel_rfl
theorem stowageref03_step.bits11 : waitsOk stowageref03_step.T11.2 stowageref03_step.B11 = true := by kernel_rfl
def stowageref03_step.T15 : Bool × List (List Nat × List Nat) := (true, [([], []), ([], []), ([1], [1]), ([], []), ([3, 2], [3]), ([2, 4], [2, 4]), ([], []), ([6, 4], [6]), ([5, 7], [5, 7]), ([0, 8], [0, 8]), ([], []), ([], []), ([10, 11], [10, 11]), ([], []), ([13], [13]), ([], []), ([14, 15], [14, 15]), ([12, 16], [12, 16]), ([9, 17], [9, 17]), ([], []), ([19, 7], [19]), ([18, 20], [18, 20]), ([], []), ([], []), ([22, 23], [22, 23]), ([24], [24]), ([21, 25], [21, 25]), ([26, 20, 0, 1, 2, 3, 4, 5, 6, 7, 8, 9, 10, 11, 12, 13, 14, 15, 16, 17, 18, 19, 20, 21, 22, 23, 24, 25, 26], [26])])
def stowageref03_step.B15 : List Nat := [0, 0, 2, 0, 14, 30, 0, 94, 254, 511, 0, 0, 3072, 0, 8192, 0, 57344, 130048, 262143, 0, 524510, 2097151, 0, 0, 12582912, 29360128, 67108863, 134217727]
theorem stowageref03_step.tab15 : rtab .any (opsOf Tryz.f91 15) = stowageref03_step.T15 := by kernel_rfl
theorem stowageref03_step.bits15 : waitsOk stowageref03_step.T15.2 stowageref03_step.B15 = true := by kernel_rfl
set_option maxHeartbeats 8000000 in
set_option maxRecDepth 100000 in
theorem stowageref03_step.calls (k : Nat) (a0_0 : Int) (a0_1 : Int) (a0_2 : Int) (a0_3 : Int) (a0_4 : Int) (a0_5 : Int) (a0_6 : Int) (a0_7 : Int) (A1 : Option Addr) (c1 : Nat) (l1 : List Int) (r1 : Int) (r2 : Int) (r3 : Int) (r4 : Int) (r5 : Int) (r6 : Int) (r7 : Int) (r8 : Int) (w : World) (hr1 : Kd.C (Kd.int .u8) w A1 l1.length l1) (hc1 : l1.length ≤ c1) (h : stowageref03_step.f k a0_0 a0_1 a0_2 a0_3 a0_4 a0_5 a0_6 a0_7 l1 = some (r1, r2, r3, r4, r5, r6, r7, r8)) :
  Calls Tryz.prog 91 #[.agg #[.int .u32 a0_0, .int .u32 a0_1, .int .u32 a0_2, .int .u32 a0_3, .int .u32 a0_4, .int .u32 a0_5, .int .u32 a0_6, .int .u32 a0_7], .slice A1 l1.length c1] w fun e w' => e = .returned (.agg #[.int .u32 r1, .int .u32 r2, .int .u32 r3, .int .u32 r4, .int .u32 r5, .int .u32 r6, .int .u32 r7, .int .u32 r8]) ∧ Below w.heap.size w w' := by
 have hu97 := Tryz.underlying97
 have HR1 := zbaq hr1
 have HC1 := zbaq hc1
 clear hr1 hc1
 have HB := zbaq (Below.refl w.heap.size w)
 have H : (stowageref03_step.l0 k l1 (List.replicate 64 0) 0 a0_0 a0_1 a0_2 a0_3 a0_4 a0_5 a0_6 a0_7) = some (r1, r2, r3, r4, r5, r6, r7, r8) := h
 clear h
 obtain ⟨y345, hy345⟩ : ∃ y_ : List Int, y_ = (List.replicate 64 0) := ⟨_, rfl⟩
 replace H : (stowageref03_step.l0 k l1 y345 0 a0_0 a0_1 a0_2 a0_3 a0_4 a0_5 a0_6 a0_7) = some (r1, r2, r3, r4, r5, r6, r7, r8) := by first | (rw [hy345]; with_reducible exact H) | (have H2_ := (Option.bind_some _ _).symm.trans H; rw [hy345]; with_reducible exact H2_) | (have H2_ := (Option.bind_some _ _).symm.trans H; with_reducible exact H2_) | with_reducible exact H | (rw [hy345]; exact H) | exact H
 have Ny345 := zbaq hy345
 clear hy345
 have H' := zbaq H
 clear H
 go_enter Tryz.func91, Tryz.ntmps91
 go_wp2_with (first | ((with_reducible refine gate_dst (N := 2) rfl ?_); refine box_event ?hg (N := 2) ?hd (cs := #[.int .u32 a0_0, .int .u32 a0_1, .int .u32 a0_2, .int .u32 a0_3, .int .u32 a0_4, .int .u32 a0_5, .int .u32 a0_6, .int .u32 a0_7]) (t := 97) ?hr ?_; (case hd => rfl); (case hg => rfl); (case hr => first | (go_simp; done) | (go_simp; rfl)); intro zbax hg w3 hbox hb; have n0_ := zbaq (below_step (by repeat (first | (with_reducible first | exact HB.out | apply zbak | apply zbai | apply zbaj) | exact HB.out)) hb); have n1_ := zbaq (hbox); have n2_ := zbaq ((by rw [hg]; exact (below_size (by repeat (first | (with_reducible first | exact HB.out | apply zbak | apply zbai | apply zbaj) | exact HB.out))) : w.heap.size ≤ zbax)); have n3_ := zbaq ((by rw [hg]; exact (below_size (by repeat (first | (with_reducible first | exact HB.out | apply zbak | apply zbai | apply zbaj) | exact HB.out))) : w.heap.size ≤ zbax)); clear HB; have HB := n0_; have zbat := n1_; have zbdb := n2_; have zbbh := n3_; clear n0_ n1_ n2_ n3_; clear hb hbox hg) | ((with_reducible refine gate_dst (N := 4) rfl ?_); refine box_event ?hg (N := 4) ?hd (cs := #[.int .u32 0, .int .u32 0, .int .u32 0, .int .u32 0, .int .u32 0, .int .u32 0, .int .u32 0, .int .u32 0]) (t := 97) ?hr ?_; (case hd => rfl); (case hg => rfl); (case hr => first | (go_simp; done) | (go_simp; rfl)); intro zbba hg w4 hbox hb; have n0_ := zbaq (blk_below (g := zbax) (o := .cells #[.int .u32 a0_0, .int .u32 a0_1, .int .u32 a0_2, .int .u32 a0_3, .int .u32 a0_4, .int .u32 a0_5, .int .u32 a0_6, .int .u32 a0_7] 97 (0, 0)) (by (with_reducible repeat (first | refine zbae ?_ _ | refine zbag ?_ | refine zbaf ?_ _)); exact zbat.out) hb); have n1_ := zbaq (below_step (by repeat (first | (with_reducible first | exact HB.out | apply zbak | apply zbai | apply zbaj | refine zbah ?_ zbbh.out) | exact HB.out)) hb); have n2_ := zbaq (hbox); have n3_ := zbaq ((by rw [hg]; exact (below_size (by repeat (first | (with_reducible first | exact HB.out | apply zbak | apply zbai | apply zbaj | refine zbah ?_ zbbh.out) | exact HB.out))) : w.heap.size ≤ zbba)); have n4_ := zbaq ((by rw [hg]; exact (below_size (by repeat (first | (with_reducible first | exact HB.out | apply zbak | apply zbai | apply zbaj | refine zbah ?_ zbbh.out) | exact HB.out))) : w.heap.size ≤ zbba)); have n5_ := zbaq ((by rw [hg]; exact Nat.ne_of_lt (blk_lt (g := zbax) (o := .cells #[.int .u32 a0_0, .int .u32 a0_1, .int .u32 a0_2, .int .u32 a0_3, .int .u32 a0_4, .int .u32 a0_5, .int .u32 a0_6, .int .u32 a0_7] 97 (0, 0)) (by (with_reducible repeat (first | refine zbae ?_ _ | refine zbag ?_ | refine zbaf ?_ _)); exact zbat.out)) : zbax ≠ zbba)); have n6_ := zbaq ((by rw [hg]; exact Nat.ne_of_gt (blk_lt (g := zbax) (o := .cells #[.int .u32 a0_0, .int .u32 a0_1, .int .u32 a0_2, .int .u32 a0_3, .int .u32 a0_4, .int .u32 a0_5, .int .u32 a0_6, .int .u32 a0_7] 97 (0, 0)) (by (with_reducible repeat (first | refine zbae ?_ _ | refine zbag ?_ | refine zbaf ?_ _)); exact zbat.out)) : zbba ≠ zbax)); clear zbat; clear HB; have zbat := n0_; have HB := n1_; have zbav := n2_; have zbdc := n3_; have zbbi := n4_; have zbbr := n5_; have zbbs := n6_; clear n0_ n1_ n2_ n3_ n4_ n5_ n6_; clear hb hbox hg) | ((with_reducible refine gate_dst (N := 20) rfl ?_); refine Kd.R_make (Kd.int .u32) _ 96 rfl (N := 20) rfl 148 _ _ rfl 64 rfl rfl Tryz.underlying148 (.int .u32 0) 4 info96 rfl (by decide) (by omega) 0 (ok := fun _ => True) (okp := fun _ => True) rfl (fun _ hk => hk) trivial (by omega) (by omega) (Below.refl _ _) (Nat.le_refl _) ?_; intro v346 w5 ho6 hb hg_ hnew_; clear hg_ hnew_; (first | rw [← Ny345.out] at ho6 | (simp only [Int.reduceToNat] at ho6; rw [← Ny345.out] at ho6)); have n0_ := zbaq (Kd.R_lower ho6 (below_size (by repeat (first | (with_reducible first | exact HB.out | apply zbak | apply zbai | apply zbaj | refine zbah ?_ zbbh.out | refine zbah ?_ zbbi.out) | exact HB.out)))); have n1_ := zbaq (blk_below (g := zbax) (o := .cells #[.int .u32 a0_0, .int .u32 a0_1, .int .u32 a0_2, .int .u32 a0_3, .int .u32 a0_4, .int .u32 a0_5, .int .u32 a0_6, .int .u32 a0_7] 97 (0, 0)) (by (with_reducible repeat (first | refine zbae ?_ _ | refine zbag ?_ | refine zbaf ?_ _)); exact zbat.out) hb); have n2_ := zbaq (blk_below (g := zbba) (o := .cells #[.int .u32 0, .int .u32 0, .int .u32 0, .int .u32 0, .int .u32 0, .int .u32 0, .int .u32 0, .int .u32 0] 97 (0, 0)) (by (with_reducible repeat (first | refine zbae ?_ _ | refine zbag ?_ | refine zbaf ?_ _)); exact zbav.out) hb); have n3_ := zbaq (below_step (by repeat (first | (with_reducible first | exact HB.out | apply zbak | apply zbai | apply zbaj | refine zbah ?_ zbbh.out | refine zbah ?_ zbbi.out) | exact HB.out)) hb); clear zbat; clear zbav; clear HB; have HO347 := n0_; have zbat := n1_; have zbav := n2_; have HB := n3_; clear n0_ n1_ n2_ n3_; clear hb ho6))
 go_loopg [6] k (fun kq v6 w' => ∃ (zbas : List Int) (zbau : Int), v6 = .int .i64 zbau ∧ Aside0 (stowageref03_step.l0 kq l1 zbas zbau a0_0 a0_1 a0_2 a0_3 a0_4 a0_5 a0_6 a0_7 = some (r1, r2, r3, r4, r5, r6, r7, r8)) ∧ Aside0 (kq ≤ k) ∧ Aside0 (Kd.R (Kd.int .u32) 96 w' w.heap.size (fun _ => True) v346 zbas) ∧ Aside0 (w'.heap[zbax]? = some (.cells #[.int .u32 a0_0, .int .u32 a0_1, .int .u32 a0_2, .int .u32 a0_3, .int .u32 a0_4, .int .u32 a0_5, .int .u32 a0_6, .int .u32 a0_7] 97 (0, 0))) ∧ Aside0 (w'.heap[zbba]? = some (.cells #[.int .u32 0, .int .u32 0, .int .u32 0, .int .u32 0, .int .u32 0, .int .u32 0, .int .u32 0, .int .u32 0] 97 (0, 0))) ∧ Aside0 (Below w.heap.size w w'))
 case atStart => exact ⟨(y345), (0), (by first | rfl | (simp; done) | (simp [*]; done)), H', ⟨Nat.le_refl _⟩, ⟨by (with_reducible repeat (first | apply Kd.R_alloc | apply Kd.R_drewN | apply Kd.R_drew)); exact HO347.out⟩, ⟨by (with_reducible repeat (first | refine zbae ?_ _ | refine zbag ?_ | refine zbaf ?_ _)); exact zbat.out⟩, ⟨by (with_reducible repeat (first | refine zbae ?_ _ | refine zbag ?_ | refine zbaf ?_ _)); exact zbav.out⟩, ⟨by repeat (first | (with_reducible first | exact HB.out | apply zbak | apply zbai | apply zbaj | refine zbah ?_ zbbh.out | refine zbah ?_ zbbi.out) | exact HB.out)⟩⟩
 case round =>
  clear H'
  try clear c1
  try clear p2
  obtain ⟨zbas, zbau, rfl, HA, HK1, HO_5, zbat, zbav, HB⟩ := hrel
  cases gk with
  | zero => exact absurd HA.out (by simp [stowageref03_step.l0])
  | succ k1 =>
   have H := HA.out
   clear HA
   simp only [stowageref03_step.l0] at H
   by_cases c7 : zbau < 64
   ·rw [if_pos c7] at H
    have c7b0 : decide (zbau < 64) = true := decide_eq_true c7
    clear c7
    by_cases c8 : zbau < 16
    ·rw [if_pos c8] at H
     have c8b0 : decide (zbau < 16) = true := decide_eq_true c8
     clear c8
     obtain ⟨ji9, hji9⟩ : ∃ j_ : Int, (wrap64 (4 * zbau)) = j_ := ⟨_, rfl⟩
     replace H : (if 0 ≤ (ji9) then (if (ji9) < (l1.length : Int) then (if 0 ≤ (wrap64 ((ji9) + 1)) then (if (wrap64 ((ji9) + 1)) < (l1.length : Int) then (if 0 ≤ (wrap64 ((ji9) + 2)) then (if (wrap64 ((ji9) + 2)) < (l1.length : Int) then (if 0 ≤ (wrap64 ((ji9) + 3)) then (if (wrap64 ((ji9) + 3)) < (l1.length : Int) then (if 0 ≤ zbau then (if zbau < (zbas.length : Int) then (stowageref03_step.l0 k1 l1 (zbas.set (zbau : Int).toNat ((((((((((rd l1 (ji9)) % 4294967296) * 16777216) % 4294967296) + ((((rd l1 (wrap64 ((ji9) + 1))) % 4294967296) * 65536) % 4294967296)) % 4294967296) + ((((rd l1 (wrap64 ((ji9) + 2))) % 4294967296) * 256) % 4294967296)) % 4294967296) + ((rd l1 (wrap64 ((ji9) + 3))) % 4294967296)) % 4294967296)) (wrap64 (zbau + 1)) a0_0 a0_1 a0_2 a0_3 a0_4 a0_5 a0_6 a0_7) else (none)) else (none)) else (none)) else (none)) else (none)) else (none)) else (none)) else (none)) else (none)) else (none)) = some (r1, r2, r3, r4, r5, r6, r7, r8) := by first | (rw [hji9] at H; exact H) | (simp only [hji9] at H ⊢; exact H)
     have hji9w : (IntKind.i64.wrap (4 * zbau)) = ji9 := (i64_w _).trans hji9
     by_cases c10 : 0 ≤ (ji9)
     ·rw [if_pos c10] at H
      have c10b0 : decide (0 ≤ (ji9)) = true := decide_eq_true c10
      clear c10
      by_cases c11 : (ji9) < (l1.length : Int)
      ·rw [if_pos c11] at H
       have c11b0 : decide ((ji9) < (l1.length : Int)) = true := decide_eq_true c11
       clear c11
       obtain ⟨ji12, hji12⟩ : ∃ j_ : Int, (wrap64 ((ji9) + 1)) = j_ := ⟨_, rfl⟩
       replace H : (if 0 ≤ (ji12) then (if (ji12) < (l1.length : Int) then (if 0 ≤ (wrap64 ((ji9) + 2)) then (if (wrap64 ((ji9) + 2)) < (l1.length : Int) then (if 0 ≤ (wrap64 ((ji9) + 3)) then (if (wrap64 ((ji9) + 3)) < (l1.length : Int) then (if 0 ≤ zbau then (if zbau < (zbas.length : Int) then (stowageref03_step.l0 k1 l1 (zbas.set (zbau : Int).toNat ((((((((((rd l1 (ji9)) % 4294967296) * 16777216) % 4294967296) + ((((rd l1 (ji12)) % 4294967296) * 65536) % 4294967296)) % 4294967296) + ((((rd l1 (wrap64 ((ji9) + 2))) % 4294967296) * 256) % 4294967296)) % 4294967296) + ((rd l1 (wrap64 ((ji9) + 3))) % 4294967296)) % 4294967296)) (wrap64 (zbau + 1)) a0_0 a0_1 a0_2 a0_3 a0_4 a0_5 a0_6 a0_7) else (none)) else (none)) else (none)) else (none)) else (none)) else (none)) else (none)) else (none)) = some (r1, r2, r3, r4, r5, r6, r7, r8) := by first | (rw [hji12] at H; exact H) | (simp only [hji12] at H ⊢; exact H)
       have hji12w : (IntKind.i64.wrap ((ji9) + 1)) = ji12 := (i64_w _).trans hji12
       by_cases c13 : 0 ≤ (ji12)
       ·rw [if_pos c13] at H
        have c13b0 : decide (0 ≤ (ji12)) = true := decide_eq_true c13
        clear c13
        by_cases c14 : (ji12) < (l1.length : Int)
        ·rw [if_pos c14] at H
         have c14b0 : decide ((ji12) < (l1.length : Int)) = true := decide_eq_true c14
         clear c14
         obtain ⟨ji15, hji15⟩ : ∃ j_ : Int, (wrap64 ((ji9) + 2)) = j_ := ⟨_, rfl⟩
         replace H : (if 0 ≤ (ji15) then (if (ji15) < (l1.length : Int) then (if 0 ≤ (wrap64 ((ji9) + 3)) then (if (wrap64 ((ji9) + 3)) < (l1.length : Int) then (if 0 ≤ zbau then (if zbau < (zbas.length : Int) then (stowageref03_step.l0 k1 l1 (zbas.set (zbau : Int).toNat ((((((((((rd l1 (ji9)) % 4294967296) * 16777216) % 4294967296) + ((((rd l1 (ji12)) % 4294967296) * 65536) % 4294967296)) % 4294967296) + ((((rd l1 (ji15)) % 4294967296) * 256) % 4294967296)) % 4294967296) + ((rd l1 (wrap64 ((ji9) + 3))) % 4294967296)) % 4294967296)) (wrap64 (zbau + 1)) a0_0 a0_1 a0_2 a0_3 a0_4 a0_5 a0_6 a0_7) else (none)) else (none)) else (none)) else (none)) else (none)) else (none)) = some (r1, r2, r3, r4, r5, r6, r7, r8) := by first | (rw [hji15] at H; exact H) | (simp only [hji15] at H ⊢; exact H)
         have hji15w : (IntKind.i64.wrap ((ji9) + 2)) = ji15 := (i64_w _).trans hji15
         by_cases c16 : 0 ≤ (ji15)
         ·rw [if_pos c16] at H
          have c16b0 : decide (0 ≤ (ji15)) = true := decide_eq_true c16
          clear c16
          by_cases c17 : (ji15) < (l1.length : Int)
          ·rw [if_pos c17] at H
           have c17b0 : decide ((ji15) < (l1.length : Int)) = true := decide_eq_true c17
           clear c17
           obtain ⟨ji18, hji18⟩ : ∃ j_ : Int, (wrap64 ((ji9) + 3)) = j_ := ⟨_, rfl⟩
           replace H : (if 0 ≤ (ji18) then (if (ji18) < (l1.length : Int) then (if 0 ≤ zbau then (if zbau < (zbas.length : Int) then (stowageref03_step.l0 k1 l1 (zbas.set (zbau : Int).toNat ((((((((((rd l1 (ji9)) % 4294967296) * 16777216) % 4294967296) + ((((rd l1 (ji12)) % 4294967296) * 65536) % 4294967296)) % 4294967296) + ((((rd l1 (ji15)) % 4294967296) * 256) % 4294967296)) % 4294967296) + ((rd l1 (ji18)) % 4294967296)) % 4294967296)) (wrap64 (zbau + 1)) a0_0 a0_1 a0_2 a0_3 a0_4 a0_5 a0_6 a0_7) else (none)) else (none)) else (none)) else (none)) = some (r1, r2, r3, r4, r5, r6, r7, r8) := by first | (rw [hji18] at H; exact H) | (simp only [hji18] at H ⊢; exact H)
           have hji18w : (IntKind.i64.wrap ((ji9) + 3)) = ji18 := (i64_w _).trans hji18
           by_cases c19 : 0 ≤ (ji18)
           ·rw [if_pos c19] at H
            have c19b0 : decide (0 ≤ (ji18)) = true := decide_eq_true c19
            clear c19
            by_cases c20 : (ji18) < (l1.length : Int)
            ·rw [if_pos c20] at H
             have c20b0 : decide ((ji18) < (l1.length : Int)) = true := decide_eq_true c20
             clear c20
             by_cases c21 : 0 ≤ zbau
             ·rw [if_pos c21] at H
              have c21b0 : decide (0 ≤ zbau) = true := decide_eq_true c21
              clear c21
              by_cases c22 : zbau < (zbas.length : Int)
              ·rw [if_pos c22] at H
               have c22b0 : decide (zbau < (zbas.length : Int)) = true := decide_eq_true c22
               clear c22
               obtain ⟨y352, hy352⟩ : ∃ y_ : List Int, y_ = (zbas.set (zbau : Int).toNat ((((((((((rd l1 (ji9)) % 4294967296) * 16777216) % 4294967296) + ((((rd l1 (ji12)) % 4294967296) * 65536) % 4294967296)) % 4294967296) + ((((rd l1 (ji15)) % 4294967296) * 256) % 4294967296)) % 4294967296) + ((rd l1 (ji18)) % 4294967296)) % 4294967296)) := ⟨_, rfl⟩
               replace H : (stowageref03_step.l0 k1 l1 y352 (wrap64 (zbau + 1)) a0_0 a0_1 a0_2 a0_3 a0_4 a0_5 a0_6 a0_7) = some (r1, r2, r3, r4, r5, r6, r7, r8) := by first | (rw [hy352]; with_reducible exact H) | (have H2_ := (Option.bind_some _ _).symm.trans H; rw [hy352]; with_reducible exact H2_) | (have H2_ := (Option.bind_some _ _).symm.trans H; with_reducible exact H2_) | with_reducible exact H | (rw [hy352]; exact H) | exact H
               have Ny352 := zbaq hy352
               clear hy352
               have H' := zbaq H
               clear H
               try go_wp2
               have n0_ := zbaq (Kd.R_drew HO_5.out)
               have n1_ := zbaq (zbag zbat.out)
               have n2_ := zbaq (zbag zbav.out)
               have n3_ := zbaq (zbaj HB.out)
               clear HO_5
               clear zbat
               clear zbav
               clear HB
               have HO_5 := n0_
               have zbat := n1_
               have zbav := n2_
               have HB := n3_
               clear n0_ n1_ n2_ n3_
               have p348 : 0 ≤ ((ji9) : Int) := of_decide_eq_true (by first | (with_reducible assumption) | assumption)
               have q348 : (ji9) < (l1.length : Int) := of_decide_eq_true (by first | (with_reducible assumption) | assumption)
               obtain ⟨ad348, e348, hx348_0⟩ := Kd.at_int HR1.out (ji9) p348 q348
               have hw348_0 := hx348_0
               cases e348
               replace hx348_0 := (HB.out.cell (zbad w _ hx348_0)).trans hx348_0
               replace p348 := eq_true p348
               replace q348 := eq_true q348
               have p349 : 0 ≤ ((ji12) : Int) := of_decide_eq_true (by first | (with_reducible assumption) | assumption)
               have q349 : (ji12) < (l1.length : Int) := of_decide_eq_true (by first | (with_reducible assumption) | assumption)
               obtain ⟨ad349, e349, hx349_0⟩ := Kd.at_int HR1.out (ji12) p349 q349
               have hw349_0 := hx349_0
               obtain rfl : ad348 = ad349 := (by injection e349)
               replace hx349_0 := (HB.out.cell (zbad w _ hx349_0)).trans hx349_0
               replace p349 := eq_true p349
               replace q349 := eq_true q349
               have p350 : 0 ≤ ((ji15) : Int) := of_decide_eq_true (by first | (with_reducible assumption) | assumption)
               have q350 : (ji15) < (l1.length : Int) := of_decide_eq_true (by first | (with_reducible assumption) | assumption)
               obtain ⟨ad350, e350, hx350_0⟩ := Kd.at_int HR1.out (ji15) p350 q350
               have hw350_0 := hx350_0
               obtain rfl : ad348 = ad350 := (by injection e350)
               replace hx350_0 := (HB.out.cell (zbad w _ hx350_0)).trans hx350_0
               replace p350 := eq_true p350
               replace q350 := eq_true q350
               have p351 : 0 ≤ ((ji18) : Int) := of_decide_eq_true (by first | (with_reducible assumption) | assumption)
               have q351 : (ji18) < (l1.length : Int) := of_decide_eq_true (by first | (with_reducible assumption) | assumption)
               obtain ⟨ad351, e351, hx351_0⟩ := Kd.at_int HR1.out (ji18) p351 q351
               have hw351_0 := hx351_0
               obtain rfl : ad348 = ad351 := (by injection e351)
               replace hx351_0 := (HB.out.cell (zbad w _ hx351_0)).trans hx351_0
               replace p351 := eq_true p351
               replace q351 := eq_true q351
               have p23 : 0 ≤ (zbau : Int) := of_decide_eq_true (by first | (with_reducible assumption) | assumption)
               have q23 : (zbau : Int) < ((zbas.length : Int) : Int) := of_decide_eq_true (by first | (with_reducible assumption) | assumption)
               obtain ⟨go23, co23, eo23, zbbt, gl23, cl23, HG23⟩ := Kd.R_form HO_5.out (by omega)
               (first | cases eo23 | (injection eo23 with ea_ en_ ec_; (first | subst ea_ | (injection ea_ with ea_; subst ea_)); subst ec_; clear en_))
               have GB23 := zbaq zbbt
               have GG23 := zbaq HG23
               clear zbbt gl23 HG23
               obtain ⟨hx23_0, hf23_0⟩ := Kd.R_celln 0 HO_5.out (zbau : Int) p23 q23
               replace p23 := eq_true p23
               replace q23 := eq_true q23
               have HP25 := Kd.R_putn HO_5.out (zbau : Int) ((((((((((rd l1 (ji9)) % 4294967296) * 16777216) % 4294967296) + ((((rd l1 (ji12)) % 4294967296) * 65536) % 4294967296)) % 4294967296) + ((((rd l1 (ji15)) % 4294967296) * 256) % 4294967296)) % 4294967296) + ((rd l1 (ji18)) % 4294967296)) % 4294967296)
               rw [← Ny352.out] at HP25
               have HQ25 := zbaq HP25
               clear HP25
               refine start_ (n := 37) (S := fun w' => w'.cell? (ad348.add ((ji9)).toNat) = some (.int .u8 (rd l1 (ji9))) ∧ w'.cell? (ad348.add ((ji12)).toNat) = some (.int .u8 (rd l1 (ji12))) ∧ w'.cell? (ad348.add ((ji15)).toNat) = some (.int .u8 (rd l1 (ji15))) ∧ w'.cell? (ad348.add ((ji18)).toNat) = some (.int .u8 (rd l1 (ji18)))) (ds := [36]) zbsq0 (by kernel_rfl) rfl rfl ⟨((HB.out.cell (zbad w _ hw348_0)).trans hw348_0), ((HB.out.cell (zbad w _ hw349_0)).trans hw349_0), ((HB.out.cell (zbad w _ hw350_0)).trans hw350_0), ((HB.out.cell (zbad w _ hw351_0)).trans hw351_0)⟩ (fun hHeld => ?_); refine with_tabW stowageref03_step.tab6 stowageref03_step.bits6 (fun HT_ HW_ => ?_)
               generalize wr.drew = w24 at HO_5 zbat zbav HB GG23 HQ25 hf23_0 hx23_0 hx348_0 hx349_0 hx350_0 hx351_0 hHeld ⊢
               refine pt 0 27 HT_ ?_
               refine pt 1 28 HT_ ?_
               refine pt 2 29 HT_ ?_
               refine pt 3 30 HT_ ?_
               refine pt 4 31 HT_ ?_
               refine pt 5 32 HT_ ?_
               refine pt 9 36 HT_ ?_
               refine pt 10 37 HT_ ?_
               refine pt 11 38 HT_ ?_
               refine pt 12 39 HT_ ?_
               refine pt 13 40 HT_ ?_
               refine pt 18 45 HT_ ?_
               refine pt 19 46 HT_ ?_
               refine pt 20 47 HT_ ?_
               refine pt 21 48 HT_ ?_
               refine pt 22 49 HT_ ?_
               refine pt 27 54 HT_ ?_
               refine pt 28 55 HT_ ?_
               refine pt 29 56 HT_ ?_
               refine pt 30 57 HT_ ?_
               refine pt 31 58 HT_ ?_
               refine tt 6 33 HT_ HW_ ?_
               refine pt 7 34 HT_ ?_
               refine pt 8 35 HT_ ?_
               refine tt 14 41 HT_ HW_ ?_
               refine pt 15 42 HT_ ?_
               refine pt 16 43 HT_ ?_
               refine pt 17 44 HT_ ?_
               refine tt 23 50 HT_ HW_ ?_
               refine pt 24 51 HT_ ?_
               refine pt 25 52 HT_ ?_
               refine pt 26 53 HT_ ?_
               refine tt 32 59 HT_ HW_ ?_
               refine pt 33 60 HT_ ?_
               refine pt 34 61 HT_ ?_
               refine pt 35 62 HT_ ?_
               refine last_ (i := 36) (N := none) zbsq37 rfl rfl (one_of HT_.out (by kernel_rfl)) (by decide) (fun K hK => ?_)
               refine skip_ (w1 := ?_) (by rfl) rfl ?_ ?_
               rotate_left
               ·go_simp
                rfl
               refine hK.out _ _ ?_
               clear hK K
               refine done_ (done_of HT_.out (by kernel_rfl)) ?_
               try go_wp2
               go_roundg k1
               case measure => have := HK1.out; omega
               case rel => exact ⟨(y352), (wrap64 (zbau + 1)), (by first | rfl | (simp; done) | (simp [*]; done)), H', ⟨by have := HK1.out; omega⟩, ⟨by (with_reducible repeat (first | apply Kd.R_alloc | apply Kd.R_drewN | apply Kd.R_drew)); (first | exact HQ25.out | (have h_ := HQ25.out; simp only [Int.emod_add_emod, Int.add_emod_emod, Int.emod_emod] at h_ ⊢; exact h_))⟩, ⟨by (with_reducible repeat (first | refine zbae ?_ _ | refine zbag ?_ | refine zbaf ?_ _)); refine blk_far ?_ (by have h_ := Kd.R_ne HO_5.out zbat.out (by decide); intro e_; exact h_ (by rw [e_]; rfl)) _; (with_reducible repeat (first | refine zbae ?_ _ | refine zbag ?_ | refine zbaf ?_ _)); exact zbat.out⟩, ⟨by (with_reducible repeat (first | refine zbae ?_ _ | refine zbag ?_ | refine zbaf ?_ _)); refine blk_far ?_ (by have h_ := Kd.R_ne HO_5.out zbav.out (by decide); intro e_; exact h_ (by rw [e_]; rfl)) _; (with_reducible repeat (first | refine zbae ?_ _ | refine zbag ?_ | refine zbaf ?_ _)); exact zbav.out⟩, ⟨by repeat (first | (with_reducible first | exact HB.out | apply zbak | apply zbai | apply zbaj | refine zbah ?_ GB23.out | refine zbah ?_ zbbh.out | refine zbah ?_ zbbi.out) | exact HB.out)⟩⟩
              ·rw [if_neg c22] at H
               exact absurd H (by simp)
             ·rw [if_neg c21] at H
              exact absurd H (by simp)
            ·rw [if_neg c20] at H
             exact absurd H (by simp)
           ·rw [if_neg c19] at H
            exact absurd H (by simp)
          ·rw [if_neg c17] at H
           exact absurd H (by simp)
         ·rw [if_neg c16] at H
          exact absurd H (by simp)
        ·rw [if_neg c14] at H
         exact absurd H (by simp)
       ·rw [if_neg c13] at H
        exact absurd H (by simp)
      ·rw [if_neg c11] at H
       exact absurd H (by simp)
     ·rw [if_neg c10] at H
      exact absurd H (by simp)
    ·rw [if_neg c8] at H
     have c8b0 : decide (zbau < 16) = false := decide_eq_false c8
     clear c8
     obtain ⟨ji26, hji26⟩ : ∃ j_ : Int, (wrap64 (zbau - 15)) = j_ := ⟨_, rfl⟩
     replace H : (if 0 ≤ (ji26) then (if (ji26) < (zbas.length : Int) then ((stowageref03_turn.f (rd zbas (ji26)) 7).bind fun t354 => ((stowageref03_turn.f (rd zbas (ji26)) 18).bind fun t356 => (if 0 ≤ (wrap64 (zbau - 2)) then (if (wrap64 (zbau - 2)) < (zbas.length : Int) then ((stowageref03_turn.f (rd zbas (wrap64 (zbau - 2))) 17).bind fun t359 => ((stowageref03_turn.f (rd zbas (wrap64 (zbau - 2))) 19).bind fun t361 => (if 0 ≤ (wrap64 (zbau - 16)) then (if (wrap64 (zbau - 16)) < (zbas.length : Int) then (if 0 ≤ (wrap64 (zbau - 7)) then (if (wrap64 (zbau - 7)) < (zbas.length : Int) then (if 0 ≤ zbau then (if zbau < (zbas.length : Int) then (stowageref03_step.l0 k1 l1 (zbas.set (zbau : Int).toNat (((((((rd zbas (wrap64 (zbau - 16))) + (Go.bits .xor .u32 (Go.bits .xor .u32 t354 t356) ((rd zbas (ji26)) / 8))) % 4294967296) + (rd zbas (wrap64 (zbau - 7)))) % 4294967296) + (Go.bits .xor .u32 (Go.bits .xor .u32 t359 t361) ((rd zbas (wrap64 (zbau - 2))) / 1024))) % 4294967296)) (wrap64 (zbau + 1)) a0_0 a0_1 a0_2 a0_3 a0_4 a0_5 a0_6 a0_7) else (none)) else (none)) else (none)) else (none)) else (none)) else (none)))) else (none)) else (none)))) else (none)) else (none)) = some (r1, r2, r3, r4, r5, r6, r7, r8) := by first | (rw [hji26] at H; exact H) | (simp only [hji26] at H ⊢; exact H)
     have hji26w : (IntKind.i64.wrap (zbau - 15)) = ji26 := (i64_w _).trans hji26
     by_cases c27 : 0 ≤ (ji26)
     ·rw [if_pos c27] at H
      have c27b0 : decide (0 ≤ (ji26)) = true := decide_eq_true c27
      clear c27
      by_cases c28 : (ji26) < (zbas.length : Int)
      ·rw [if_pos c28] at H
       have c28b0 : decide ((ji26) < (zbas.length : Int)) = true := decide_eq_true c28
       clear c28
       replace H := Option.bind_eq_some_iff.mp H
       obtain ⟨t354, A290, H⟩ := H
       replace H : ((stowageref03_turn.f (rd zbas (ji26)) 18).bind fun t356 => (if 0 ≤ (wrap64 (zbau - 2)) then (if (wrap64 (zbau - 2)) < (zbas.length : Int) then ((stowageref03_turn.f (rd zbas (wrap64 (zbau - 2))) 17).bind fun t359 => ((stowageref03_turn.f (rd zbas (wrap64 (zbau - 2))) 19).bind fun t361 => (if 0 ≤ (wrap64 (zbau - 16)) then (if (wrap64 (zbau - 16)) < (zbas.length : Int) then (if 0 ≤ (wrap64 (zbau - 7)) then (if (wrap64 (zbau - 7)) < (zbas.length : Int) then (if 0 ≤ zbau then (if zbau < (zbas.length : Int) then (stowageref03_step.l0 k1 l1 (zbas.set (zbau : Int).toNat (((((((rd zbas (wrap64 (zbau - 16))) + (Go.bits .xor .u32 (Go.bits .xor .u32 t354 t356) ((rd zbas (ji26)) / 8))) % 4294967296) + (rd zbas (wrap64 (zbau - 7)))) % 4294967296) + (Go.bits .xor .u32 (Go.bits .xor .u32 t359 t361) ((rd zbas (wrap64 (zbau - 2))) / 1024))) % 4294967296)) (wrap64 (zbau + 1)) a0_0 a0_1 a0_2 a0_3 a0_4 a0_5 a0_6 a0_7) else (none)) else (none)) else (none)) else (none)) else (none)) else (none)))) else (none)) else (none))) = some (r1, r2, r3, r4, r5, r6, r7, r8) := H
       have A29 := zbaq A290
       clear A290
       replace H := Option.bind_eq_some_iff.mp H
       obtain ⟨t356, A300, H⟩ := H
       replace H : (if 0 ≤ (wrap64 (zbau - 2)) then (if (wrap64 (zbau - 2)) < (zbas.length : Int) then ((stowageref03_turn.f (rd zbas (wrap64 (zbau - 2))) 17).bind fun t359 => ((stowageref03_turn.f (rd zbas (wrap64 (zbau - 2))) 19).bind fun t361 => (if 0 ≤ (wrap64 (zbau - 16)) then (if (wrap64 (zbau - 16)) < (zbas.length : Int) then (if 0 ≤ (wrap64 (zbau - 7)) then (if (wrap64 (zbau - 7)) < (zbas.length : Int) then (if 0 ≤ zbau then (if zbau < (zbas.length : Int) then (stowageref03_step.l0 k1 l1 (zbas.set (zbau : Int).toNat (((((((rd zbas (wrap64 (zbau - 16))) + (Go.bits .xor .u32 (Go.bits .xor .u32 t354 t356) ((rd zbas (ji26)) / 8))) % 4294967296) + (rd zbas (wrap64 (zbau - 7)))) % 4294967296) + (Go.bits .xor .u32 (Go.bits .xor .u32 t359 t361) ((rd zbas (wrap64 (zbau - 2))) / 1024))) % 4294967296)) (wrap64 (zbau + 1)) a0_0 a0_1 a0_2 a0_3 a0_4 a0_5 a0_6 a0_7) else (none)) else (none)) else (none)) else (none)) else (none)) else (none)))) else (none)) else (none)) = some (r1, r2, r3, r4, r5, r6, r7, r8) := H
       have A30 := zbaq A300
       clear A300
       obtain ⟨ji31, hji31⟩ : ∃ j_ : Int, (wrap64 (zbau - 2)) = j_ := ⟨_, rfl⟩
       replace H : (if 0 ≤ (ji31) then (if (ji31) < (zbas.length : Int) then ((stowageref03_turn.f (rd zbas (ji31)) 17).bind fun t359 => ((stowageref03_turn.f (rd zbas (ji31)) 19).bind fun t361 => (if 0 ≤ (wrap64 (zbau - 16)) then (if (wrap64 (zbau - 16)) < (zbas.length : Int) then (if 0 ≤ (wrap64 (zbau - 7)) then (if (wrap64 (zbau - 7)) < (zbas.length : Int) then (if 0 ≤ zbau then (if zbau < (zbas.length : Int) then (stowageref03_step.l0 k1 l1 (zbas.set (zbau : Int).toNat (((((((rd zbas (wrap64 (zbau - 16))) + (Go.bits .xor .u32 (Go.bits .xor .u32 t354 t356) ((rd zbas (ji26)) / 8))) % 4294967296) + (rd zbas (wrap64 (zbau - 7)))) % 4294967296) + (Go.bits .xor .u32 (Go.bits .xor .u32 t359 t361) ((rd zbas (ji31)) / 1024))) % 4294967296)) (wrap64 (zbau + 1)) a0_0 a0_1 a0_2 a0_3 a0_4 a0_5 a0_6 a0_7) else (none)) else (none)) else (none)) else (none)) else (none)) else (none)))) else (none)) else (none)) = some (r1, r2, r3, r4, r5, r6, r7, r8) := by first | (rw [hji31] at H; exact H) | (simp only [hji31] at H ⊢; exact H)
       (try rw [hji31] at A29)
       (try rw [hji31] at A30)
       have hji31w : (IntKind.i64.wrap (zbau - 2)) = ji31 := (i64_w _).trans hji31
       by_cases c32 : 0 ≤ (ji31)
       ·rw [if_pos c32] at H
        have c32b0 : decide (0 ≤ (ji31)) = true := decide_eq_true c32
        clear c32
        by_cases c33 : (ji31) < (zbas.length : Int)
        ·rw [if_pos c33] at H
         have c33b0 : decide ((ji31) < (zbas.length : Int)) = true := decide_eq_true c33
         clear c33
         replace H := Option.bind_eq_some_iff.mp H
         obtain ⟨t359, A340, H⟩ := H
         replace H : ((stowageref03_turn.f (rd zbas (ji31)) 19).bind fun t361 => (if 0 ≤ (wrap64 (zbau - 16)) then (if (wrap64 (zbau - 16)) < (zbas.length : Int) then (if 0 ≤ (wrap64 (zbau - 7)) then (if (wrap64 (zbau - 7)) < (zbas.length : Int) then (if 0 ≤ zbau then (if zbau < (zbas.length : Int) then (stowageref03_step.l0 k1 l1 (zbas.set (zbau : Int).toNat (((((((rd zbas (wrap64 (zbau - 16))) + (Go.bits .xor .u32 (Go.bits .xor .u32 t354 t356) ((rd zbas (ji26)) / 8))) % 4294967296) + (rd zbas (wrap64 (zbau - 7)))) % 4294967296) + (Go.bits .xor .u32 (Go.bits .xor .u32 t359 t361) ((rd zbas (ji31)) / 1024))) % 4294967296)) (wrap64 (zbau + 1)) a0_0 a0_1 a0_2 a0_3 a0_4 a0_5 a0_6 a0_7) else (none)) else (none)) else (none)) else (none)) else (none)) else (none))) = some (r1, r2, r3, r4, r5, r6, r7, r8) := H
         have A34 := zbaq A340
         clear A340
         replace H := Option.bind_eq_some_iff.mp H
         obtain ⟨t361, A350, H⟩ := H
         replace H : (if 0 ≤ (wrap64 (zbau - 16)) then (if (wrap64 (zbau - 16)) < (zbas.length : Int) then (if 0 ≤ (wrap64 (zbau - 7)) then (if (wrap64 (zbau - 7)) < (zbas.length : Int) then (if 0 ≤ zbau then (if zbau < (zbas.length : Int) then (stowageref03_step.l0 k1 l1 (zbas.set (zbau : Int).toNat (((((((rd zbas (wrap64 (zbau - 16))) + (Go.bits .xor .u32 (Go.bits .xor .u32 t354 t356) ((rd zbas (ji26)) / 8))) % 4294967296) + (rd zbas (wrap64 (zbau - 7)))) % 4294967296) + (Go.bits .xor .u32 (Go.bits .xor .u32 t359 t361) ((rd zbas (ji31)) / 1024))) % 4294967296)) (wrap64 (zbau + 1)) a0_0 a0_1 a0_2 a0_3 a0_4 a0_5 a0_6 a0_7) else (none)) else (none)) else (none)) else (none)) else (none)) else (none)) = some (r1, r2, r3, r4, r5, r6, r7, r8) := H
         have A35 := zbaq A350
         clear A350
         obtain ⟨ji36, hji36⟩ : ∃ j_ : Int, (wrap64 (zbau - 16)) = j_ := ⟨_, rfl⟩
         replace H : (if 0 ≤ (ji36) then (if (ji36) < (zbas.length : Int) then (if 0 ≤ (wrap64 (zbau - 7)) then (if (wrap64 (zbau - 7)) < (zbas.length : Int) then (if 0 ≤ zbau then (if zbau < (zbas.length : Int) then (stowageref03_step.l0 k1 l1 (zbas.set (zbau : Int).toNat (((((((rd zbas (ji36)) + (Go.bits .xor .u32 (Go.bits .xor .u32 t354 t356) ((rd zbas (ji26)) / 8))) % 4294967296) + (rd zbas (wrap64 (zbau - 7)))) % 4294967296) + (Go.bits .xor .u32 (Go.bits .xor .u32 t359 t361) ((rd zbas (ji31)) / 1024))) % 4294967296)) (wrap64 (zbau + 1)) a0_0 a0_1 a0_2 a0_3 a0_4 a0_5 a0_6 a0_7) else (none)) else (none)) else (none)) else (none)) else (none)) else (none)) = some (r1, r2, r3, r4, r5, r6, r7, r8) := by first | (rw [hji36] at H; exact H) | (simp only [hji36] at H ⊢; exact H)
         (try rw [hji36] at A29)
         (try rw [hji36] at A30)
         (try rw [hji36] at A34)
         (try rw [hji36] at A35)
         have hji36w : (IntKind.i64.wrap (zbau - 16)) = ji36 := (i64_w _).trans hji36
         by_cases c37 : 0 ≤ (ji36)
         ·rw [if_pos c37] at H
          have c37b0 : decide (0 ≤ (ji36)) = true := decide_eq_true c37
          clear c37
          by_cases c38 : (ji36) < (zbas.length : Int)
          ·rw [if_pos c38] at H
           have c38b0 : decide ((ji36) < (zbas.length : Int)) = true := decide_eq_true c38
           clear c38
           obtain ⟨ji39, hji39⟩ : ∃ j_ : Int, (wrap64 (zbau - 7)) = j_ := ⟨_, rfl⟩
           replace H : (if 0 ≤ (ji39) then (if (ji39) < (zbas.length : Int) then (if 0 ≤ zbau then (if zbau < (zbas.length : Int) then (stowageref03_step.l0 k1 l1 (zbas.set (zbau : Int).toNat (((((((rd zbas (ji36)) + (Go.bits .xor .u32 (Go.bits .xor .u32 t354 t356) ((rd zbas (ji26)) / 8))) % 4294967296) + (rd zbas (ji39))) % 4294967296) + (Go.bits .xor .u32 (Go.bits .xor .u32 t359 t361) ((rd zbas (ji31)) / 1024))) % 4294967296)) (wrap64 (zbau + 1)) a0_0 a0_1 a0_2 a0_3 a0_4 a0_5 a0_6 a0_7) else (none)) else (none)) else (none)) else (none)) = some (r1, r2, r3, r4, r5, r6, r7, r8) := by first | (rw [hji39] at H; exact H) | (simp only [hji39] at H ⊢; exact H)
           (try rw [hji39] at A29)
           (try rw [hji39] at A30)
           (try rw [hji39] at A34)
           (try rw [hji39] at A35)
           have hji39w : (IntKind.i64.wrap (zbau - 7)) = ji39 := (i64_w _).trans hji39
           by_cases c40 : 0 ≤ (ji39)
           ·rw [if_pos c40] at H
            have c40b0 : decide (0 ≤ (ji39)) = true := decide_eq_true c40
            clear c40
            by_cases c41 : (ji39) < (zbas.length : Int)
            ·rw [if_pos c41] at H
             have c41b0 : decide ((ji39) < (zbas.length : Int)) = true := decide_eq_true c41
             clear c41
             by_cases c42 : 0 ≤ zbau
             ·rw [if_pos c42] at H
              have c42b0 : decide (0 ≤ zbau) = true := decide_eq_true c42
              clear c42
              by_cases c43 : zbau < (zbas.length : Int)
              ·rw [if_pos c43] at H
               have c43b0 : decide (zbau < (zbas.length : Int)) = true := decide_eq_true c43
               clear c43
               obtain ⟨y365, hy365⟩ : ∃ y_ : List Int, y_ = (zbas.set (zbau : Int).toNat (((((((rd zbas (ji36)) + (Go.bits .xor .u32 (Go.bits .xor .u32 t354 t356) ((rd zbas (ji26)) / 8))) % 4294967296) + (rd zbas (ji39))) % 4294967296) + (Go.bits .xor .u32 (Go.bits .xor .u32 t359 t361) ((rd zbas (ji31)) / 1024))) % 4294967296)) := ⟨_, rfl⟩
               replace H : (stowageref03_step.l0 k1 l1 y365 (wrap64 (zbau + 1)) a0_0 a0_1 a0_2 a0_3 a0_4 a0_5 a0_6 a0_7) = some (r1, r2, r3, r4, r5, r6, r7, r8) := by first | (rw [hy365]; with_reducible exact H) | (have H2_ := (Option.bind_some _ _).symm.trans H; rw [hy365]; with_reducible exact H2_) | (have H2_ := (Option.bind_some _ _).symm.trans H; with_reducible exact H2_) | with_reducible exact H | (rw [hy365]; exact H) | exact H
               have Ny365 := zbaq hy365
               clear hy365
               have H' := zbaq H
               clear H
               try go_wp2
               have n0_ := zbaq (Kd.R_drew HO_5.out)
               have n1_ := zbaq (zbag zbat.out)
               have n2_ := zbaq (zbag zbav.out)
               have n3_ := zbaq (zbaj HB.out)
               clear HO_5
               clear zbat
               clear zbav
               clear HB
               have HO_5 := n0_
               have zbat := n1_
               have zbav := n2_
               have HB := n3_
               clear n0_ n1_ n2_ n3_
               obtain ⟨Ao46, co46, eo46⟩ := Kd.R_slice HO_5.out
               (first | subst eo46 | (injection eo46 with f1_ f2_ f3_; have f4_ := f1_.symm; have f5_ := f3_.symm; clear f1_ f2_ f3_; subst f4_; subst f5_))
               have p353 : 0 ≤ ((ji26) : Int) := of_decide_eq_true (by first | (with_reducible assumption) | assumption)
               have q353 : (ji26) < (zbas.length : Int) := of_decide_eq_true (by first | (with_reducible assumption) | assumption)
               obtain ⟨ad353, e353, hx353_0⟩ := Kd.at_int (Kd.R_reads' HO_5.out).2.2 (ji26) p353 q353
               cases e353
               replace p353 := eq_true p353
               replace q353 := eq_true q353
               have p355 : 0 ≤ ((ji26) : Int) := of_decide_eq_true (by first | (with_reducible assumption) | assumption)
               have q355 : (ji26) < (zbas.length : Int) := of_decide_eq_true (by first | (with_reducible assumption) | assumption)
               obtain ⟨ad355, e355, hx355_0⟩ := Kd.at_int (Kd.R_reads' HO_5.out).2.2 (ji26) p355 q355
               obtain rfl : ad353 = ad355 := (by injection e355)
               replace p355 := eq_true p355
               replace q355 := eq_true q355
               have p357 : 0 ≤ ((ji26) : Int) := of_decide_eq_true (by first | (with_reducible assumption) | assumption)
               have q357 : (ji26) < (zbas.length : Int) := of_decide_eq_true (by first | (with_reducible assumption) | assumption)
               obtain ⟨ad357, e357, hx357_0⟩ := Kd.at_int (Kd.R_reads' HO_5.out).2.2 (ji26) p357 q357
               obtain rfl : ad353 = ad357 := (by injection e357)
               replace p357 := eq_true p357
               replace q357 := eq_true q357
               refine start_ (n := 21) (S := fun w' => w'.cell? (ad353.add ((ji26)).toNat) = some (.int .u32 (rd zbas (ji26))) ∧ w'.cell? (ad353.add ((ji26)).toNat) = some (.int .u32 (rd zbas (ji26))) ∧ w'.cell? (ad353.add ((ji26)).toNat) = some (.int .u32 (rd zbas (ji26)))) (ds := []) zbsq38 (by kernel_rfl) rfl rfl ⟨hx353_0, hx355_0, hx357_0⟩ (fun hHeld => ?_); refine with_tabW stowageref03_step.tab7 stowageref03_step.bits7 (fun HT_ HW_ => ?_)
               generalize wr.drew = w45 at HO_5 zbat zbav HB hx353_0 hx355_0 hx357_0 hHeld ⊢
               refine pt 0 63 HT_ ?_
               refine pt 1 64 HT_ ?_
               refine pt 2 65 HT_ ?_
               refine pt 3 66 HT_ ?_
               refine pt 6 69 HT_ ?_
               refine pt 7 70 HT_ ?_
               refine pt 8 71 HT_ ?_
               refine pt 9 72 HT_ ?_
               refine pt 13 76 HT_ ?_
               refine pt 14 77 HT_ ?_
               refine pt 15 78 HT_ ?_
               refine pt 16 79 HT_ ?_
               refine tt 4 67 HT_ HW_ ?_
               refine tt 10 73 HT_ HW_ ?_
               refine tt 17 80 HT_ HW_ ?_
               refine pt 18 81 HT_ ?_
               refine one_ (i := 5) (N := some 68) zbsq55 rfl rfl (one_of HT_.out (by kernel_rfl)) (by decide) (fun K hK => ?_)
               refine goes_ Tryz.func97 (by kernel_rfl) rfl #[.int .u32 (rd zbas (ji26)), .int .u64 7] (by rfl) rfl rfl (by (try simp only [zban, zbao, zbap]); first | done | (simp only [hji26]; rfl) | rfl | (simp only [List.length_drop, List.length_take]; rfl)) ?_
               with_reducible refine (stowageref03_turn.calls (rd zbas (ji26)) 7 t354 _ A29.out).mono ?_
               rintro e w' ⟨rfl, ⟨nd, rfl⟩⟩
               refine ⟨_, rfl, ?_⟩
               refine hK.out _ _ ⟨hHeld.1, hHeld.2.1, hHeld.2.2⟩ (fun hHeld => ?_)
               clear hK K
               refine nt 68 ?_
               refine one_ (i := 11) (N := some 74) zbsq56 rfl rfl (one_of HT_.out (by kernel_rfl)) (by decide) (fun K hK => ?_)
               refine goes_ Tryz.func97 (by kernel_rfl) rfl #[.int .u32 (rd zbas (ji26)), .int .u64 18] (by rfl) rfl rfl (by (try simp only [zban, zbao, zbap]); first | done | (simp only [hji26]; rfl) | rfl | (simp only [List.length_drop, List.length_take]; rfl)) ?_
               with_reducible refine (stowageref03_turn.calls (rd zbas (ji26)) 18 t356 _ A30.out).mono ?_
               rintro e w' ⟨rfl, ⟨nd, rfl⟩⟩
               refine ⟨_, rfl, ?_⟩
               refine hK.out _ _ ⟨hHeld.1, hHeld.2.1, hHeld.2.2⟩ (fun hHeld => ?_)
               clear hK K
               refine nt 74 ?_
               refine pt 12 75 HT_ ?_
               refine pt 19 82 HT_ ?_
               refine pt 20 7 HT_ ?_
               refine done_ (done_of HT_.out (by kernel_rfl)) ?_
               try go_wp2
               (try (rw [drewN_self w45]; generalize hq_ : World.drewN w45 _ = w45; have n0_ : Aside0 (Kd.R (Kd.int .u32) 96 w45 w.heap.size (fun _ => True) (.slice (some ad353) zbas.length co46) zbas) := ⟨by rw [← hq_]; exact (by (with_reducible repeat (first | apply Kd.R_alloc | apply Kd.R_drewN | apply Kd.R_drew)); exact HO_5.out)⟩; have n1_ : Aside0 (w45.heap[zbax]? = some (.cells #[.int .u32 a0_0, .int .u32 a0_1, .int .u32 a0_2, .int .u32 a0_3, .int .u32 a0_4, .int .u32 a0_5, .int .u32 a0_6, .int .u32 a0_7] 97 (0, 0))) := ⟨by rw [← hq_]; exact (by (with_reducible repeat (first | refine zbae ?_ _ | refine zbag ?_ | refine zbaf ?_ _)); exact zbat.out)⟩; have n2_ : Aside0 (w45.heap[zbba]? = some (.cells #[.int .u32 0, .int .u32 0, .int .u32 0, .int .u32 0, .int .u32 0, .int .u32 0, .int .u32 0, .int .u32 0] 97 (0, 0))) := ⟨by rw [← hq_]; exact (by (with_reducible repeat (first | refine zbae ?_ _ | refine zbag ?_ | refine zbaf ?_ _)); exact zbav.out)⟩; have n3_ : Aside0 (Below w.heap.size w w45) := ⟨by rw [← hq_]; exact (by repeat (first | (with_reducible first | exact HB.out | apply zbak | apply zbai | apply zbaj | refine zbah ?_ zbbh.out | refine zbah ?_ zbbi.out) | exact HB.out))⟩; clear HO_5 zbat zbav HB hq_; have HO_5 := n0_; have zbat := n1_; have zbav := n2_; have HB := n3_; clear n0_ n1_ n2_ n3_; have hcuBK343_0 : w45.cell? ⟨zbax, 0, none⟩ = some (.int .u32 a0_0) := (zbal zbat.out 0).trans rfl; have hfuBK343_0 := zbam zbat.out 0; have hcuBK343_1 : w45.cell? ⟨zbax, 1, none⟩ = some (.int .u32 a0_1) := (zbal zbat.out 1).trans rfl; have hfuBK343_1 := zbam zbat.out 1; have hcuBK343_2 : w45.cell? ⟨zbax, 2, none⟩ = some (.int .u32 a0_2) := (zbal zbat.out 2).trans rfl; have hfuBK343_2 := zbam zbat.out 2; have hcuBK343_3 : w45.cell? ⟨zbax, 3, none⟩ = some (.int .u32 a0_3) := (zbal zbat.out 3).trans rfl; have hfuBK343_3 := zbam zbat.out 3; have hcuBK343_4 : w45.cell? ⟨zbax, 4, none⟩ = some (.int .u32 a0_4) := (zbal zbat.out 4).trans rfl; have hfuBK343_4 := zbam zbat.out 4; have hcuBK343_5 : w45.cell? ⟨zbax, 5, none⟩ = some (.int .u32 a0_5) := (zbal zbat.out 5).trans rfl; have hfuBK343_5 := zbam zbat.out 5; have hcuBK343_6 : w45.cell? ⟨zbax, 6, none⟩ = some (.int .u32 a0_6) := (zbal zbat.out 6).trans rfl; have hfuBK343_6 := zbam zbat.out 6; have hcuBK343_7 : w45.cell? ⟨zbax, 7, none⟩ = some (.int .u32 a0_7) := (zbal zbat.out 7).trans rfl; have hfuBK343_7 := zbam zbat.out 7; have hcuBK344_0 : w45.cell? ⟨zbba, 0, none⟩ = some (.int .u32 0) := (zbal zbav.out 0).trans rfl; have hfuBK344_0 := zbam zbav.out 0; have hcuBK344_1 : w45.cell? ⟨zbba, 1, none⟩ = some (.int .u32 0) := (zbal zbav.out 1).trans rfl; have hfuBK344_1 := zbam zbav.out 1; have hcuBK344_2 : w45.cell? ⟨zbba, 2, none⟩ = some (.int .u32 0) := (zbal zbav.out 2).trans rfl; have hfuBK344_2 := zbam zbav.out 2; have hcuBK344_3 : w45.cell? ⟨zbba, 3, none⟩ = some (.int .u32 0) := (zbal zbav.out 3).trans rfl; have hfuBK344_3 := zbam zbav.out 3; have hcuBK344_4 : w45.cell? ⟨zbba, 4, none⟩ = some (.int .u32 0) := (zbal zbav.out 4).trans rfl; have hfuBK344_4 := zbam zbav.out 4; have hcuBK344_5 : w45.cell? ⟨zbba, 5, none⟩ = some (.int .u32 0) := (zbal zbav.out 5).trans rfl; have hfuBK344_5 := zbam zbav.out 5; have hcuBK344_6 : w45.cell? ⟨zbba, 6, none⟩ = some (.int .u32 0) := (zbal zbav.out 6).trans rfl; have hfuBK344_6 := zbam zbav.out 6; have hcuBK344_7 : w45.cell? ⟨zbba, 7, none⟩ = some (.int .u32 0) := (zbal zbav.out 7).trans rfl; have hfuBK344_7 := zbam zbav.out 7))
               have n0_ := zbaq (Kd.R_drew HO_5.out)
               have n1_ := zbaq (zbag zbat.out)
               have n2_ := zbaq (zbag zbav.out)
               have n3_ := zbaq (zbaj HB.out)
               clear HO_5
               clear zbat
               clear zbav
               clear HB
               have HO_5 := n0_
               have zbat := n1_
               have zbav := n2_
               have HB := n3_
               clear n0_ n1_ n2_ n3_
               have p358 : 0 ≤ ((ji31) : Int) := of_decide_eq_true (by first | (with_reducible assumption) | assumption)
               have q358 : (ji31) < (zbas.length : Int) := of_decide_eq_true (by first | (with_reducible assumption) | assumption)
               obtain ⟨ad358, e358, hx358_0⟩ := Kd.at_int (Kd.R_reads' HO_5.out).2.2 (ji31) p358 q358
               obtain rfl : ad353 = ad358 := (by injection e358)
               replace p358 := eq_true p358
               replace q358 := eq_true q358
               have p360 : 0 ≤ ((ji31) : Int) := of_decide_eq_true (by first | (with_reducible assumption) | assumption)
               have q360 : (ji31) < (zbas.length : Int) := of_decide_eq_true (by first | (with_reducible assumption) | assumption)
               obtain ⟨ad360, e360, hx360_0⟩ := Kd.at_int (Kd.R_reads' HO_5.out).2.2 (ji31) p360 q360
               obtain rfl : ad353 = ad360 := (by injection e360)
               replace p360 := eq_true p360
               replace q360 := eq_true q360
               have p362 : 0 ≤ ((ji31) : Int) := of_decide_eq_true (by first | (with_reducible assumption) | assumption)
               have q362 : (ji31) < (zbas.length : Int) := of_decide_eq_true (by first | (with_reducible assumption) | assumption)
               obtain ⟨ad362, e362, hx362_0⟩ := Kd.at_int (Kd.R_reads' HO_5.out).2.2 (ji31) p362 q362
               obtain rfl : ad353 = ad362 := (by injection e362)
               replace p362 := eq_true p362
               replace q362 := eq_true q362
               refine start_ (n := 21) (S := fun w' => w'.cell? (ad353.add ((ji31)).toNat) = some (.int .u32 (rd zbas (ji31))) ∧ w'.cell? (ad353.add ((ji31)).toNat) = some (.int .u32 (rd zbas (ji31))) ∧ w'.cell? (ad353.add ((ji31)).toNat) = some (.int .u32 (rd zbas (ji31)))) (ds := []) zbsq38 (by kernel_rfl) rfl rfl ⟨hx358_0, hx360_0, hx362_0⟩ (fun hHeld => ?_); refine with_tabW stowageref03_step.tab8 stowageref03_step.bits8 (fun HT_ HW_ => ?_)
               generalize w45.drew = w47 at HO_5 zbat zbav HB hx358_0 hx360_0 hx362_0 hHeld ⊢
               refine pt 0 83 HT_ ?_
               refine pt 1 84 HT_ ?_
               refine pt 2 85 HT_ ?_
               refine pt 3 86 HT_ ?_
               refine pt 6 89 HT_ ?_
               refine pt 7 90 HT_ ?_
               refine pt 8 91 HT_ ?_
               refine pt 9 92 HT_ ?_
               refine pt 13 96 HT_ ?_
               refine pt 14 97 HT_ ?_
               refine pt 15 98 HT_ ?_
               refine pt 16 99 HT_ ?_
               refine tt 4 87 HT_ HW_ ?_
               refine tt 10 93 HT_ HW_ ?_
               refine tt 17 100 HT_ HW_ ?_
               refine pt 18 101 HT_ ?_
               refine one_ (i := 5) (N := some 88) zbsq55 rfl rfl (one_of HT_.out (by kernel_rfl)) (by decide) (fun K hK => ?_)
               refine goes_ Tryz.func97 (by kernel_rfl) rfl #[.int .u32 (rd zbas (ji31)), .int .u64 17] (by rfl) rfl rfl (by (try simp only [zban, zbao, zbap]); first | done | (simp only [hji31]; rfl) | rfl | (simp only [List.length_drop, List.length_take]; rfl)) ?_
               with_reducible refine (stowageref03_turn.calls (rd zbas (ji31)) 17 t359 _ A34.out).mono ?_
               rintro e w' ⟨rfl, ⟨nd, rfl⟩⟩
               refine ⟨_, rfl, ?_⟩
               refine hK.out _ _ ⟨hHeld.1, hHeld.2.1, hHeld.2.2⟩ (fun hHeld => ?_)
               clear hK K
               refine nt 88 ?_
               refine one_ (i := 11) (N := some 94) zbsq56 rfl rfl (one_of HT_.out (by kernel_rfl)) (by decide) (fun K hK => ?_)
               refine goes_ Tryz.func97 (by kernel_rfl) rfl #[.int .u32 (rd zbas (ji31)), .int .u64 19] (by rfl) rfl rfl (by (try simp only [zban, zbao, zbap]); first | done | (simp only [hji31]; rfl) | rfl | (simp only [List.length_drop, List.length_take]; rfl)) ?_
               with_reducible refine (stowageref03_turn.calls (rd zbas (ji31)) 19 t361 _ A35.out).mono ?_
               rintro e w' ⟨rfl, ⟨nd, rfl⟩⟩
               refine ⟨_, rfl, ?_⟩
               refine hK.out _ _ ⟨hHeld.1, hHeld.2.1, hHeld.2.2⟩ (fun hHeld => ?_)
               clear hK K
               refine nt 94 ?_
               refine pt 12 95 HT_ ?_
               refine pt 19 102 HT_ ?_
               refine pt 20 8 HT_ ?_
               refine done_ (done_of HT_.out (by kernel_rfl)) ?_
               try go_wp2
               (try (rw [drewN_self w47]; generalize hq_ : World.drewN w47 _ = w47; have n0_ : Aside0 (Kd.R (Kd.int .u32) 96 w47 w.heap.size (fun _ => True) (.slice (some ad353) zbas.length co46) zbas) := ⟨by rw [← hq_]; exact (by (with_reducible repeat (first | apply Kd.R_alloc | apply Kd.R_drewN | apply Kd.R_drew)); exact HO_5.out)⟩; have n1_ : Aside0 (w47.heap[zbax]? = some (.cells #[.int .u32 a0_0, .int .u32 a0_1, .int .u32 a0_2, .int .u32 a0_3, .int .u32 a0_4, .int .u32 a0_5, .int .u32 a0_6, .int .u32 a0_7] 97 (0, 0))) := ⟨by rw [← hq_]; exact (by (with_reducible repeat (first | refine zbae ?_ _ | refine zbag ?_ | refine zbaf ?_ _)); exact zbat.out)⟩; have n2_ : Aside0 (w47.heap[zbba]? = some (.cells #[.int .u32 0, .int .u32 0, .int .u32 0, .int .u32 0, .int .u32 0, .int .u32 0, .int .u32 0, .int .u32 0] 97 (0, 0))) := ⟨by rw [← hq_]; exact (by (with_reducible repeat (first | refine zbae ?_ _ | refine zbag ?_ | refine zbaf ?_ _)); exact zbav.out)⟩; have n3_ : Aside0 (Below w.heap.size w w47) := ⟨by rw [← hq_]; exact (by repeat (first | (with_reducible first | exact HB.out | apply zbak | apply zbai | apply zbaj | refine zbah ?_ zbbh.out | refine zbah ?_ zbbi.out) | exact HB.out))⟩; clear HO_5 zbat zbav HB hq_; have HO_5 := n0_; have zbat := n1_; have zbav := n2_; have HB := n3_; clear n0_ n1_ n2_ n3_; have hcuBK343_0 : w47.cell? ⟨zbax, 0, none⟩ = some (.int .u32 a0_0) := (zbal zbat.out 0).trans rfl; have hfuBK343_0 := zbam zbat.out 0; have hcuBK343_1 : w47.cell? ⟨zbax, 1, none⟩ = some (.int .u32 a0_1) := (zbal zbat.out 1).trans rfl; have hfuBK343_1 := zbam zbat.out 1; have hcuBK343_2 : w47.cell? ⟨zbax, 2, none⟩ = some (.int .u32 a0_2) := (zbal zbat.out 2).trans rfl; have hfuBK343_2 := zbam zbat.out 2; have hcuBK343_3 : w47.cell? ⟨zbax, 3, none⟩ = some (.int .u32 a0_3) := (zbal zbat.out 3).trans rfl; have hfuBK343_3 := zbam zbat.out 3; have hcuBK343_4 : w47.cell? ⟨zbax, 4, none⟩ = some (.int .u32 a0_4) := (zbal zbat.out 4).trans rfl; have hfuBK343_4 := zbam zbat.out 4; have hcuBK343_5 : w47.cell? ⟨zbax, 5, none⟩ = some (.int .u32 a0_5) := (zbal zbat.out 5).trans rfl; have hfuBK343_5 := zbam zbat.out 5; have hcuBK343_6 : w47.cell? ⟨zbax, 6, none⟩ = some (.int .u32 a0_6) := (zbal zbat.out 6).trans rfl; have hfuBK343_6 := zbam zbat.out 6; have hcuBK343_7 : w47.cell? ⟨zbax, 7, none⟩ = some (.int .u32 a0_7) := (zbal zbat.out 7).trans rfl; have hfuBK343_7 := zbam zbat.out 7; have hcuBK344_0 : w47.cell? ⟨zbba, 0, none⟩ = some (.int .u32 0) := (zbal zbav.out 0).trans rfl; have hfuBK344_0 := zbam zbav.out 0; have hcuBK344_1 : w47.cell? ⟨zbba, 1, none⟩ = some (.int .u32 0) := (zbal zbav.out 1).trans rfl; have hfuBK344_1 := zbam zbav.out 1; have hcuBK344_2 : w47.cell? ⟨zbba, 2, none⟩ = some (.int .u32 0) := (zbal zbav.out 2).trans rfl; have hfuBK344_2 := zbam zbav.out 2; have hcuBK344_3 : w47.cell? ⟨zbba, 3, none⟩ = some (.int .u32 0) := (zbal zbav.out 3).trans rfl; have hfuBK344_3 := zbam zbav.out 3; have hcuBK344_4 : w47.cell? ⟨zbba, 4, none⟩ = some (.int .u32 0) := (zbal zbav.out 4).trans rfl; have hfuBK344_4 := zbam zbav.out 4; have hcuBK344_5 : w47.cell? ⟨zbba, 5, none⟩ = some (.int .u32 0) := (zbal zbav.out 5).trans rfl; have hfuBK344_5 := zbam zbav.out 5; have hcuBK344_6 : w47.cell? ⟨zbba, 6, none⟩ = some (.int .u32 0) := (zbal zbav.out 6).trans rfl; have hfuBK344_6 := zbam zbav.out 6; have hcuBK344_7 : w47.cell? ⟨zbba, 7, none⟩ = some (.int .u32 0) := (zbal zbav.out 7).trans rfl; have hfuBK344_7 := zbam zbav.out 7))
               have n0_ := zbaq (Kd.R_drew HO_5.out)
               have n1_ := zbaq (zbag zbat.out)
               have n2_ := zbaq (zbag zbav.out)
               have n3_ := zbaq (zbaj HB.out)
               clear HO_5
               clear zbat
               clear zbav
               clear HB
               have HO_5 := n0_
               have zbat := n1_
               have zbav := n2_
               have HB := n3_
               clear n0_ n1_ n2_ n3_
               have p363 : 0 ≤ ((ji36) : Int) := of_decide_eq_true (by first | (with_reducible assumption) | assumption)
               have q363 : (ji36) < (zbas.length : Int) := of_decide_eq_true (by first | (with_reducible assumption) | assumption)
               obtain ⟨ad363, e363, hx363_0⟩ := Kd.at_int (Kd.R_reads' HO_5.out).2.2 (ji36) p363 q363
               obtain rfl : ad353 = ad363 := (by injection e363)
               replace p363 := eq_true p363
               replace q363 := eq_true q363
               have p364 : 0 ≤ ((ji39) : Int) := of_decide_eq_true (by first | (with_reducible assumption) | assumption)
               have q364 : (ji39) < (zbas.length : Int) := of_decide_eq_true (by first | (with_reducible assumption) | assumption)
               obtain ⟨ad364, e364, hx364_0⟩ := Kd.at_int (Kd.R_reads' HO_5.out).2.2 (ji39) p364 q364
               obtain rfl : ad353 = ad364 := (by injection e364)
               replace p364 := eq_true p364
               replace q364 := eq_true q364
               have p44 : 0 ≤ (zbau : Int) := of_decide_eq_true (by first | (with_reducible assumption) | assumption)
               have q44 : (zbau : Int) < ((zbas.length : Int) : Int) := of_decide_eq_true (by first | (with_reducible assumption) | assumption)
               obtain ⟨go44, co44, eo44, zbbu, gl44, cl44, HG44⟩ := Kd.R_form HO_5.out (by omega)
               (first | cases eo44 | (injection eo44 with ea_ en_ ec_; (first | subst ea_ | (injection ea_ with ea_; subst ea_)); subst ec_; clear en_))
               have GB44 := zbaq zbbu
               have GG44 := zbaq HG44
               clear zbbu gl44 HG44
               (first | simp only [add_plain] at hx353_0 | skip)
               (first | simp only [add_plain] at hx355_0 | skip)
               (first | simp only [add_plain] at hx357_0 | skip)
               (first | simp only [add_plain] at hx358_0 | skip)
               (first | simp only [add_plain] at hx360_0 | skip)
               (first | simp only [add_plain] at hx362_0 | skip)
               (first | simp only [add_plain] at hx363_0 | skip)
               (first | simp only [add_plain] at hx364_0 | skip)
               obtain ⟨hx44_0, hf44_0⟩ := Kd.R_celln 0 HO_5.out (zbau : Int) p44 q44
               replace p44 := eq_true p44
               replace q44 := eq_true q44
               have HP49 := Kd.R_putn HO_5.out (zbau : Int) (((((((rd zbas (ji36)) + (Go.bits .xor .u32 (Go.bits .xor .u32 t354 t356) ((rd zbas (ji26)) / 8))) % 4294967296) + (rd zbas (ji39))) % 4294967296) + (Go.bits .xor .u32 (Go.bits .xor .u32 t359 t361) ((rd zbas (ji31)) / 1024))) % 4294967296)
               rw [← Ny365.out] at HP49
               have HQ49 := zbaq HP49
               clear HP49
               refine start_ (n := 19) (S := fun w' => w'.cell? ⟨go44, ((ji36)).toNat, none⟩ = some (.int .u32 (rd zbas (ji36))) ∧ w'.cell? ⟨go44, ((ji39)).toNat, none⟩ = some (.int .u32 (rd zbas (ji39)))) (ds := [18]) zbsq60 (by kernel_rfl) rfl rfl ⟨hx363_0, hx364_0⟩ (fun hHeld => ?_); refine with_tabW stowageref03_step.tab9 stowageref03_step.bits9 (fun HT_ HW_ => ?_)
               generalize w47.drew = w48 at HO_5 zbat zbav HB GG44 HQ49 hf44_0 hx353_0 hx355_0 hx357_0 hx358_0 hx360_0 hx362_0 hx363_0 hx364_0 hx44_0 hHeld ⊢
               refine pt 0 103 HT_ ?_
               refine pt 1 104 HT_ ?_
               refine pt 2 105 HT_ ?_
               refine pt 3 106 HT_ ?_
               refine pt 4 107 HT_ ?_
               refine pt 5 108 HT_ ?_
               refine pt 7 110 HT_ ?_
               refine pt 9 112 HT_ ?_
               refine pt 10 113 HT_ ?_
               refine pt 11 114 HT_ ?_
               refine pt 12 115 HT_ ?_
               refine pt 15 118 HT_ ?_
               refine tt 6 109 HT_ HW_ ?_
               refine pt 8 111 HT_ ?_
               refine tt 13 116 HT_ HW_ ?_
               refine pt 14 117 HT_ ?_
               refine pt 16 119 HT_ ?_
               refine pt 17 120 HT_ ?_
               refine last_ (i := 18) (N := none) zbsq79 rfl rfl (one_of HT_.out (by kernel_rfl)) (by decide) (fun K hK => ?_)
               refine skip_ (w1 := ?_) (by rfl) rfl ?_ ?_
               rotate_left
               ·go_simp
                rfl
               refine hK.out _ _ ?_
               clear hK K
               refine done_ (done_of HT_.out (by kernel_rfl)) ?_
               try go_wp2
               go_roundg k1
               case measure => have := HK1.out; omega
               case rel => exact ⟨(y365), (wrap64 (zbau + 1)), (by first | rfl | (simp; done) | (simp [*]; done)), H', ⟨by have := HK1.out; omega⟩, ⟨by (with_reducible repeat (first | apply Kd.R_alloc | apply Kd.R_drewN | apply Kd.R_drew)); (first | exact HQ49.out | (have h_ := HQ49.out; simp only [Int.emod_add_emod, Int.add_emod_emod, Int.emod_emod] at h_ ⊢; exact h_))⟩, ⟨by (with_reducible repeat (first | refine zbae ?_ _ | refine zbag ?_ | refine zbaf ?_ _)); refine blk_far ?_ (by have h_ := Kd.R_ne HO_5.out zbat.out (by decide); intro e_; exact h_ (by rw [e_]; rfl)) _; (with_reducible repeat (first | refine zbae ?_ _ | refine zbag ?_ | refine zbaf ?_ _)); exact zbat.out⟩, ⟨by (with_reducible repeat (first | refine zbae ?_ _ | refine zbag ?_ | refine zbaf ?_ _)); refine blk_far ?_ (by have h_ := Kd.R_ne HO_5.out zbav.out (by decide); intro e_; exact h_ (by rw [e_]; rfl)) _; (with_reducible repeat (first | refine zbae ?_ _ | refine zbag ?_ | refine zbaf ?_ _)); exact zbav.out⟩, ⟨by repeat (first | (with_reducible first | exact HB.out | apply zbak | apply zbai | apply zbaj | refine zbah ?_ GB44.out | refine zbah ?_ zbbh.out | refine zbah ?_ zbbi.out) | exact HB.out)⟩⟩
              ·rw [if_neg c43] at H
               exact absurd H (by simp)
             ·rw [if_neg c42] at H
              exact absurd H (by simp)
            ·rw [if_neg c41] at H
             exact absurd H (by simp)
           ·rw [if_neg c40] at H
            exact absurd H (by simp)
          ·rw [if_neg c38] at H
           exact absurd H (by simp)
         ·rw [if_neg c37] at H
          exact absurd H (by simp)
        ·rw [if_neg c33] at H
         exact absurd H (by simp)
       ·rw [if_neg c32] at H
        exact absurd H (by simp)
      ·rw [if_neg c28] at H
       exact absurd H (by simp)
     ·rw [if_neg c27] at H
      exact absurd H (by simp)
   ·rw [if_neg c7] at H
    have c7b0 : decide (zbau < 64) = false := decide_eq_false c7
    clear c7
    have H' := zbaq H
    clear H
    try go_wp2
    have n0_ := zbaq (Kd.R_drew HO_5.out)
    have n1_ := zbaq (zbag zbat.out)
    have n2_ := zbaq (zbag zbav.out)
    have n3_ := zbaq (zbaj HB.out)
    clear HO_5
    clear zbat
    clear zbav
    clear HB
    have HO_5 := n0_
    have zbat := n1_
    have zbav := n2_
    have HB := n3_
    clear n0_ n1_ n2_ n3_
    refine start_ (n := 12) (S := fun w' => w'.cell? ⟨zbax, 0, none⟩ = some (.int .u32 a0_0) ∧ w'.cell? ⟨zbax, 1, none⟩ = some (.int .u32 a0_1) ∧ w'.cell? ⟨zbax, 2, none⟩ = some (.int .u32 a0_2) ∧ w'.cell? ⟨zbax, 3, none⟩ = some (.int .u32 a0_3) ∧ w'.cell? ⟨zbax, 4, none⟩ = some (.int .u32 a0_4) ∧ w'.cell? ⟨zbax, 5, none⟩ = some (.int .u32 a0_5) ∧ w'.cell? ⟨zbax, 6, none⟩ = some (.int .u32 a0_6) ∧ w'.cell? ⟨zbax, 7, none⟩ = some (.int .u32 a0_7)) (ds := []) zbsq80 (by kernel_rfl) rfl rfl ⟨(zbal zbat.out 0).trans rfl, (zbal zbat.out 1).trans rfl, (zbal zbat.out 2).trans rfl, (zbal zbat.out 3).trans rfl, (zbal zbat.out 4).trans rfl, (zbal zbat.out 5).trans rfl, (zbal zbat.out 6).trans rfl, (zbal zbat.out 7).trans rfl⟩ (fun hHeld => ?_); refine with_tabW stowageref03_step.tab10 stowageref03_step.bits10 (fun HT_ HW_ => ?_)
    generalize wr.drew = w50 at HO_5 zbat zbav HB hHeld ⊢
    refine pt 0 121 HT_ ?_
    refine pt 2 123 HT_ ?_
    refine pt 4 125 HT_ ?_
    refine pt 6 127 HT_ ?_
    refine tt 1 122 HT_ HW_ ?_
    refine pt 8 9 HT_ ?_
    refine tt 3 124 HT_ HW_ ?_
    refine pt 9 10 HT_ ?_
    refine tt 5 126 HT_ HW_ ?_
    refine pt 10 11 HT_ ?_
    refine tt 7 128 HT_ HW_ ?_
    refine pt 11 12 HT_ ?_
    refine done_ (done_of HT_.out (by kernel_rfl)) ?_
    try go_wp2
    have n0_ := zbaq (Kd.R_drew HO_5.out)
    have n1_ := zbaq (zbag zbat.out)
    have n2_ := zbaq (zbag zbav.out)
    have n3_ := zbaq (zbaj HB.out)
    clear HO_5
    clear zbat
    clear zbav
    clear HB
    have HO_5 := n0_
    have zbat := n1_
    have zbav := n2_
    have HB := n3_
    clear n0_ n1_ n2_ n3_
    refine start_ (n := 12) (S := fun w' => w'.cell? ⟨zbax, 0, none⟩ = some (.int .u32 a0_0) ∧ w'.cell? ⟨zbax, 1, none⟩ = some (.int .u32 a0_1) ∧ w'.cell? ⟨zbax, 2, none⟩ = some (.int .u32 a0_2) ∧ w'.cell? ⟨zbax, 3, none⟩ = some (.int .u32 a0_3) ∧ w'.cell? ⟨zbax, 4, none⟩ = some (.int .u32 a0_4) ∧ w'.cell? ⟨zbax, 5, none⟩ = some (.int .u32 a0_5) ∧ w'.cell? ⟨zbax, 6, none⟩ = some (.int .u32 a0_6) ∧ w'.cell? ⟨zbax, 7, none⟩ = some (.int .u32 a0_7)) (ds := []) zbsq80 (by kernel_rfl) rfl rfl ⟨(zbal zbat.out 0).trans rfl, (zbal zbat.out 1).trans rfl, (zbal zbat.out 2).trans rfl, (zbal zbat.out 3).trans rfl, (zbal zbat.out 4).trans rfl, (zbal zbat.out 5).trans rfl, (zbal zbat.out 6).trans rfl, (zbal zbat.out 7).trans rfl⟩ (fun hHeld => ?_); refine with_tabW stowageref03_step.tab11 stowageref03_step.bits11 (fun HT_ HW_ => ?_)
    generalize w50.drew = w51 at HO_5 zbat zbav HB hHeld ⊢
    refine pt 0 129 HT_ ?_
    refine pt 2 131 HT_ ?_
    refine pt 4 133 HT_ ?_
    refine pt 6 135 HT_ ?_
    refine tt 1 130 HT_ HW_ ?_
    refine pt 8 13 HT_ ?_
    refine tt 3 132 HT_ HW_ ?_
    refine pt 9 14 HT_ ?_
    refine tt 5 134 HT_ HW_ ?_
    refine pt 10 15 HT_ ?_
    refine tt 7 136 HT_ HW_ ?_
    refine pt 11 16 HT_ ?_
    refine done_ (done_of HT_.out (by kernel_rfl)) ?_
    try go_wp2
    go_loopg [9, 10, 11, 12, 13, 14, 15, 16, 17] k1 (fun kq v9 v10 v11 v12 v13 v14 v15 v16 v17 w' => ∃ (zbaz : Int) (zbbb : Int) (zbbc : Int) (zbbg : Int) (zbaw : Int) (zbbd : Int) (zbbe : Int) (zbbf : Int) (zbay : Int), v9 = .int .u32 zbaz ∧ v10 = .int .u32 zbbb ∧ v11 = .int .u32 zbbc ∧ v12 = .int .u32 zbbg ∧ v13 = .int .u32 zbaw ∧ v14 = .int .u32 zbbd ∧ v15 = .int .u32 zbbe ∧ v16 = .int .u32 zbbf ∧ v17 = .int .i64 zbay ∧ Aside0 (stowageref03_step.l1 kq zbas zbaz zbbb zbbc zbbg zbaw zbbd zbbe zbbf zbay a0_0 a0_1 a0_2 a0_3 a0_4 a0_5 a0_6 a0_7 = some (r1, r2, r3, r4, r5, r6, r7, r8)) ∧ Aside0 (kq ≤ k1) ∧ Aside0 (Kd.R (Kd.int .u32) 96 w' w.heap.size (fun _ => True) v346 zbas) ∧ Aside0 (w'.heap[zbax]? = some (.cells #[.int .u32 a0_0, .int .u32 a0_1, .int .u32 a0_2, .int .u32 a0_3, .int .u32 a0_4, .int .u32 a0_5, .int .u32 a0_6, .int .u32 a0_7] 97 (0, 0))) ∧ Aside0 (w'.heap[zbba]? = some (.cells #[.int .u32 0, .int .u32 0, .int .u32 0, .int .u32 0, .int .u32 0, .int .u32 0, .int .u32 0, .int .u32 0] 97 (0, 0))) ∧ Aside0 (Below w.heap.size w w'))
    case atStart => exact ⟨(a0_0), (a0_1), (a0_2), (a0_3), (a0_4), (a0_5), (a0_6), (a0_7), (0), (by first | rfl | (simp; done) | (simp [*]; done)), (by first | rfl | (simp; done) | (simp [*]; done)), (by first | rfl | (simp; done) | (simp [*]; done)), (by first | rfl | (simp; done) | (simp [*]; done)), (by first | rfl | (simp; done) | (simp [*]; done)), (by first | rfl | (simp; done) | (simp [*]; done)), (by first | rfl | (simp; done) | (simp [*]; done)), (by first | rfl | (simp; done) | (simp [*]; done)), (by first | rfl | (simp; done) | (simp [*]; done)), H', ⟨Nat.le_refl _⟩, ⟨by (with_reducible repeat (first | apply Kd.R_alloc | apply Kd.R_drewN | apply Kd.R_drew)); exact HO_5.out⟩, ⟨by (with_reducible repeat (first | refine zbae ?_ _ | refine zbag ?_ | refine zbaf ?_ _)); exact zbat.out⟩, ⟨by (with_reducible repeat (first | refine zbae ?_ _ | refine zbag ?_ | refine zbaf ?_ _)); exact zbav.out⟩, ⟨by repeat (first | (with_reducible first | exact HB.out | apply zbak | apply zbai | apply zbaj | refine zbah ?_ zbbh.out | refine zbah ?_ zbbi.out) | exact HB.out)⟩⟩
    case round =>
     clear H'
     try clear c2
     try clear p2
     try clear c3
     try clear p3
     try clear q3
     try clear hx3
     try clear c4
     try clear p4
     try clear q4
     try clear hx4
     try clear hf4
     try clear p6
     try clear c7
     try clear c7b0
     try clear c9
     try clear c27
     try clear c28
     try clear c32
     try clear c33
     try clear hx35
     try clear p36
     try clear q36
     try clear hx36
     try clear c37
     try clear c38
     try clear c40
     try clear c41
     try clear c42
     try clear c43
     try clear p44
     try clear q44
     try clear hx44
     try clear hf44
     try clear hx353_0
     try clear hx355_0
     try clear hx357_0
     try clear hx358_0
     try clear hx360_0
     try clear hx362_0
     try clear hx363_0
     try clear hx364_0
     try clear hx44_0
     try clear p363
     try clear p364
     try clear p44
     try clear q363
     try clear q364
     try clear q44
     obtain ⟨zbaz, zbbb, zbbc, zbbg, zbaw, zbbd, zbbe, zbbf, zbay, rfl, rfl, rfl, rfl, rfl, rfl, rfl, rfl, rfl, HA, HK2, HO_5, zbat, zbav, HB⟩ := hrel
     cases gk with
     | zero => exact absurd HA.out (by simp [stowageref03_step.l1])
     | succ k2 =>
      have H := HA.out
      clear HA
      simp only [stowageref03_step.l1] at H
      by_cases c52 : zbay < 64
      ·rw [if_pos c52] at H
       have c52b0 : decide (zbay < 64) = true := decide_eq_true c52
       clear c52
       replace H := Option.bind_eq_some_iff.mp H
       obtain ⟨t366, A530, H⟩ := H
       replace H : ((stowageref03_turn.f zbaw 11).bind fun t367 => ((stowageref03_turn.f zbaw 25).bind fun t368 => ((stowageref03_number.f zbay).bind fun t369 => (if 0 ≤ zbay then (if zbay < (zbas.length : Int) then ((stowageref03_turn.f zbaz 2).bind fun t371 => ((stowageref03_turn.f zbaz 13).bind fun t372 => ((stowageref03_turn.f zbaz 22).bind fun t373 => (stowageref03_step.l1 k2 zbas ((((((((((zbbf + (Go.bits .xor .u32 (Go.bits .xor .u32 t366 t367) t368)) % 4294967296) + (Go.bits .xor .u32 (Go.bits .and .u32 zbaw zbbd) (Go.bits .and .u32 ((4294967295 - zbaw) % 4294967296) zbbe))) % 4294967296) + t369) % 4294967296) + (rd zbas zbay)) % 4294967296) + (((Go.bits .xor .u32 (Go.bits .xor .u32 t371 t372) t373) + (Go.bits .xor .u32 (Go.bits .xor .u32 (Go.bits .and .u32 zbaz zbbb) (Go.bits .and .u32 zbaz zbbc)) (Go.bits .and .u32 zbbb zbbc))) % 4294967296)) % 4294967296) zbaz zbbb zbbc ((zbbg + ((((((((zbbf + (Go.bits .xor .u32 (Go.bits .xor .u32 t366 t367) t368)) % 4294967296) + (Go.bits .xor .u32 (Go.bits .and .u32 zbaw zbbd) (Go.bits .and .u32 ((4294967295 - zbaw) % 4294967296) zbbe))) % 4294967296) + t369) % 4294967296) + (rd zbas zbay)) % 4294967296)) % 4294967296) zbaw zbbd zbbe (wrap64 (zbay + 1)) a0_0 a0_1 a0_2 a0_3 a0_4 a0_5 a0_6 a0_7)))) else (none)) else (none))))) = some (r1, r2, r3, r4, r5, r6, r7, r8) := H
       have A53 := zbaq A530
       clear A530
       replace H := Option.bind_eq_some_iff.mp H
       obtain ⟨t367, A540, H⟩ := H
       replace H : ((stowageref03_turn.f zbaw 25).bind fun t368 => ((stowageref03_number.f zbay).bind fun t369 => (if 0 ≤ zbay then (if zbay < (zbas.length : Int) then ((stowageref03_turn.f zbaz 2).bind fun t371 => ((stowageref03_turn.f zbaz 13).bind fun t372 => ((stowageref03_turn.f zbaz 22).bind fun t373 => (stowageref03_step.l1 k2 zbas ((((((((((zbbf + (Go.bits .xor .u32 (Go.bits .xor .u32 t366 t367) t368)) % 4294967296) + (Go.bits .xor .u32 (Go.bits .and .u32 zbaw zbbd) (Go.bits .and .u32 ((4294967295 - zbaw) % 4294967296) zbbe))) % 4294967296) + t369) % 4294967296) + (rd zbas zbay)) % 4294967296) + (((Go.bits .xor .u32 (Go.bits .xor .u32 t371 t372) t373) + (Go.bits .xor .u32 (Go.bits .xor .u32 (Go.bits .and .u32 zbaz zbbb) (Go.bits .and .u32 zbaz zbbc)) (Go.bits .and .u32 zbbb zbbc))) % 4294967296)) % 4294967296) zbaz zbbb zbbc ((zbbg + ((((((((zbbf + (Go.bits .xor .u32 (Go.bits .xor .u32 t366 t367) t368)) % 4294967296) + (Go.bits .xor .u32 (Go.bits .and .u32 zbaw zbbd) (Go.bits .and .u32 ((4294967295 - zbaw) % 4294967296) zbbe))) % 4294967296) + t369) % 4294967296) + (rd zbas zbay)) % 4294967296)) % 4294967296) zbaw zbbd zbbe (wrap64 (zbay + 1)) a0_0 a0_1 a0_2 a0_3 a0_4 a0_5 a0_6 a0_7)))) else (none)) else (none)))) = some (r1, r2, r3, r4, r5, r6, r7, r8) := H
       have A54 := zbaq A540
       clear A540
       replace H := Option.bind_eq_some_iff.mp H
       obtain ⟨t368, A550, H⟩ := H
       replace H : ((stowageref03_number.f zbay).bind fun t369 => (if 0 ≤ zbay then (if zbay < (zbas.length : Int) then ((stowageref03_turn.f zbaz 2).bind fun t371 => ((stowageref03_turn.f zbaz 13).bind fun t372 => ((stowageref03_turn.f zbaz 22).bind fun t373 => (stowageref03_step.l1 k2 zbas ((((((((((zbbf + (Go.bits .xor .u32 (Go.bits .xor .u32 t366 t367) t368)) % 4294967296) + (Go.bits .xor .u32 (Go.bits .and .u32 zbaw zbbd) (Go.bits .and .u32 ((4294967295 - zbaw) % 4294967296) zbbe))) % 4294967296) + t369) % 4294967296) + (rd zbas zbay)) % 4294967296) + (((Go.bits .xor .u32 (Go.bits .xor .u32 t371 t372) t373) + (Go.bits .xor .u32 (Go.bits .xor .u32 (Go.bits .and .u32 zbaz zbbb) (Go.bits .and .u32 zbaz zbbc)) (Go.bits .and .u32 zbbb zbbc))) % 4294967296)) % 4294967296) zbaz zbbb zbbc ((zbbg + ((((((((zbbf + (Go.bits .xor .u32 (Go.bits .xor .u32 t366 t367) t368)) % 4294967296) + (Go.bits .xor .u32 (Go.bits .and .u32 zbaw zbbd) (Go.bits .and .u32 ((4294967295 - zbaw) % 4294967296) zbbe))) % 4294967296) + t369) % 4294967296) + (rd zbas zbay)) % 4294967296)) % 4294967296) zbaw zbbd zbbe (wrap64 (zbay + 1)) a0_0 a0_1 a0_2 a0_3 a0_4 a0_5 a0_6 a0_7)))) else (none)) else (none))) = some (r1, r2, r3, r4, r5, r6, r7, r8) := H
       have A55 := zbaq A550
       clear A550
       replace H := Option.bind_eq_some_iff.mp H
       obtain ⟨t369, A560, H⟩ := H
       replace H : (if 0 ≤ zbay then (if zbay < (zbas.length : Int) then ((stowageref03_turn.f zbaz 2).bind fun t371 => ((stowageref03_turn.f zbaz 13).bind fun t372 => ((stowageref03_turn.f zbaz 22).bind fun t373 => (stowageref03_step.l1 k2 zbas ((((((((((zbbf + (Go.bits .xor .u32 (Go.bits .xor .u32 t366 t367) t368)) % 4294967296) + (Go.bits .xor .u32 (Go.bits .and .u32 zbaw zbbd) (Go.bits .and .u32 ((4294967295 - zbaw) % 4294967296) zbbe))) % 4294967296) + t369) % 4294967296) + (rd zbas zbay)) % 4294967296) + (((Go.bits .xor .u32 (Go.bits .xor .u32 t371 t372) t373) + (Go.bits .xor .u32 (Go.bits .xor .u32 (Go.bits .and .u32 zbaz zbbb) (Go.bits .and .u32 zbaz zbbc)) (Go.bits .and .u32 zbbb zbbc))) % 4294967296)) % 4294967296) zbaz zbbb zbbc ((zbbg + ((((((((zbbf + (Go.bits .xor .u32 (Go.bits .xor .u32 t366 t367) t368)) % 4294967296) + (Go.bits .xor .u32 (Go.bits .and .u32 zbaw zbbd) (Go.bits .and .u32 ((4294967295 - zbaw) % 4294967296) zbbe))) % 4294967296) + t369) % 4294967296) + (rd zbas zbay)) % 4294967296)) % 4294967296) zbaw zbbd zbbe (wrap64 (zbay + 1)) a0_0 a0_1 a0_2 a0_3 a0_4 a0_5 a0_6 a0_7)))) else (none)) else (none)) = some (r1, r2, r3, r4, r5, r6, r7, r8) := H
       have A56 := zbaq A560
       clear A560
       by_cases c57 : 0 ≤ zbay
       ·rw [if_pos c57] at H
        have c57b0 : decide (0 ≤ zbay) = true := decide_eq_true c57
        clear c57
        by_cases c58 : zbay < (zbas.length : Int)
        ·rw [if_pos c58] at H
         have c58b0 : decide (zbay < (zbas.length : Int)) = true := decide_eq_true c58
         clear c58
         replace H := Option.bind_eq_some_iff.mp H
         obtain ⟨t371, A590, H⟩ := H
         replace H : ((stowageref03_turn.f zbaz 13).bind fun t372 => ((stowageref03_turn.f zbaz 22).bind fun t373 => (stowageref03_step.l1 k2 zbas ((((((((((zbbf + (Go.bits .xor .u32 (Go.bits .xor .u32 t366 t367) t368)) % 4294967296) + (Go.bits .xor .u32 (Go.bits .and .u32 zbaw zbbd) (Go.bits .and .u32 ((4294967295 - zbaw) % 4294967296) zbbe))) % 4294967296) + t369) % 4294967296) + (rd zbas zbay)) % 4294967296) + (((Go.bits .xor .u32 (Go.bits .xor .u32 t371 t372) t373) + (Go.bits .xor .u32 (Go.bits .xor .u32 (Go.bits .and .u32 zbaz zbbb) (Go.bits .and .u32 zbaz zbbc)) (Go.bits .and .u32 zbbb zbbc))) % 4294967296)) % 4294967296) zbaz zbbb zbbc ((zbbg + ((((((((zbbf + (Go.bits .xor .u32 (Go.bits .xor .u32 t366 t367) t368)) % 4294967296) + (Go.bits .xor .u32 (Go.bits .and .u32 zbaw zbbd) (Go.bits .and .u32 ((4294967295 - zbaw) % 4294967296) zbbe))) % 4294967296) + t369) % 4294967296) + (rd zbas zbay)) % 4294967296)) % 4294967296) zbaw zbbd zbbe (wrap64 (zbay + 1)) a0_0 a0_1 a0_2 a0_3 a0_4 a0_5 a0_6 a0_7))) = some (r1, r2, r3, r4, r5, r6, r7, r8) := H
         have A59 := zbaq A590
         clear A590
         replace H := Option.bind_eq_some_iff.mp H
         obtain ⟨t372, A600, H⟩ := H
         replace H : ((stowageref03_turn.f zbaz 22).bind fun t373 => (stowageref03_step.l1 k2 zbas ((((((((((zbbf + (Go.bits .xor .u32 (Go.bits .xor .u32 t366 t367) t368)) % 4294967296) + (Go.bits .xor .u32 (Go.bits .and .u32 zbaw zbbd) (Go.bits .and .u32 ((4294967295 - zbaw) % 4294967296) zbbe))) % 4294967296) + t369) % 4294967296) + (rd zbas zbay)) % 4294967296) + (((Go.bits .xor .u32 (Go.bits .xor .u32 t371 t372) t373) + (Go.bits .xor .u32 (Go.bits .xor .u32 (Go.bits .and .u32 zbaz zbbb) (Go.bits .and .u32 zbaz zbbc)) (Go.bits .and .u32 zbbb zbbc))) % 4294967296)) % 4294967296) zbaz zbbb zbbc ((zbbg + ((((((((zbbf + (Go.bits .xor .u32 (Go.bits .xor .u32 t366 t367) t368)) % 4294967296) + (Go.bits .xor .u32 (Go.bits .and .u32 zbaw zbbd) (Go.bits .and .u32 ((4294967295 - zbaw) % 4294967296) zbbe))) % 4294967296) + t369) % 4294967296) + (rd zbas zbay)) % 4294967296)) % 4294967296) zbaw zbbd zbbe (wrap64 (zbay + 1)) a0_0 a0_1 a0_2 a0_3 a0_4 a0_5 a0_6 a0_7)) = some (r1, r2, r3, r4, r5, r6, r7, r8) := H
         have A60 := zbaq A600
         clear A600
         replace H := Option.bind_eq_some_iff.mp H
         obtain ⟨t373, A610, H⟩ := H
         replace H : (stowageref03_step.l1 k2 zbas ((((((((((zbbf + (Go.bits .xor .u32 (Go.bits .xor .u32 t366 t367) t368)) % 4294967296) + (Go.bits .xor .u32 (Go.bits .and .u32 zbaw zbbd) (Go.bits .and .u32 ((4294967295 - zbaw) % 4294967296) zbbe))) % 4294967296) + t369) % 4294967296) + (rd zbas zbay)) % 4294967296) + (((Go.bits .xor .u32 (Go.bits .xor .u32 t371 t372) t373) + (Go.bits .xor .u32 (Go.bits .xor .u32 (Go.bits .and .u32 zbaz zbbb) (Go.bits .and .u32 zbaz zbbc)) (Go.bits .and .u32 zbbb zbbc))) % 4294967296)) % 4294967296) zbaz zbbb zbbc ((zbbg + ((((((((zbbf + (Go.bits .xor .u32 (Go.bits .xor .u32 t366 t367) t368)) % 4294967296) + (Go.bits .xor .u32 (Go.bits .and .u32 zbaw zbbd) (Go.bits .and .u32 ((4294967295 - zbaw) % 4294967296) zbbe))) % 4294967296) + t369) % 4294967296) + (rd zbas zbay)) % 4294967296)) % 4294967296) zbaw zbbd zbbe (wrap64 (zbay + 1)) a0_0 a0_1 a0_2 a0_3 a0_4 a0_5 a0_6 a0_7) = some (r1, r2, r3, r4, r5, r6, r7, r8) := H
         have A61 := zbaq A610
         clear A610
         have H' := zbaq H
         clear H
         try go_wp2
         have n0_ := zbaq (Kd.R_drew HO_5.out)
         have n1_ := zbaq (zbag zbat.out)
         have n2_ := zbaq (zbag zbav.out)
         have n3_ := zbaq (zbaj HB.out)
         clear HO_5
         clear zbat
         clear zbav
         clear HB
         have HO_5 := n0_
         have zbat := n1_
         have zbav := n2_
         have HB := n3_
         clear n0_ n1_ n2_ n3_
         obtain ⟨Ao63, co63, eo63⟩ := Kd.R_slice HO_5.out
         (first | subst eo63 | (injection eo63 with f1_ f2_ f3_; have f4_ := f1_.symm; have f5_ := f3_.symm; clear f1_ f2_ f3_; subst f4_; subst f5_))
         have p370 : 0 ≤ (zbay : Int) := of_decide_eq_true (by first | (with_reducible assumption) | assumption)
         have q370 : zbay < (zbas.length : Int) := of_decide_eq_true (by first | (with_reducible assumption) | assumption)
         obtain ⟨ad370, e370, hx370_0⟩ := Kd.at_int (Kd.R_reads' HO_5.out).2.2 zbay p370 q370
         cases e370
         replace p370 := eq_true p370
         replace q370 := eq_true q370
         refine start_ (n := 28) (S := fun w' => w'.cell? (ad370.add (zbay).toNat) = some (.int .u32 (rd zbas zbay))) (ds := []) zbsq93 (by kernel_rfl) rfl rfl (hx370_0) (fun hHeld => ?_); refine with_tabW stowageref03_step.tab15 stowageref03_step.bits15 (fun HT_ HW_ => ?_)
         generalize wr.drew = w62 at HO_5 zbat zbav HB hx370_0 hHeld ⊢
         refine pt 0 141 HT_ ?_
         refine pt 1 142 HT_ ?_
         refine pt 3 144 HT_ ?_
         refine pt 6 147 HT_ ?_
         refine pt 10 151 HT_ ?_
         refine pt 11 152 HT_ ?_
         refine pt 12 153 HT_ ?_
         refine pt 13 154 HT_ ?_
         refine pt 14 155 HT_ ?_
         refine pt 15 156 HT_ ?_
         refine pt 16 157 HT_ ?_
         refine pt 17 158 HT_ ?_
         refine pt 19 160 HT_ ?_
         refine pt 22 163 HT_ ?_
         refine pt 23 164 HT_ ?_
         refine pt 24 165 HT_ ?_
         refine tt 25 166 HT_ HW_ ?_
         refine one_ (i := 2) (N := some 143) zbsq111 rfl rfl (one_of HT_.out (by kernel_rfl)) (by decide) (fun K hK => ?_)
         refine goes_ Tryz.func97 (by kernel_rfl) rfl #[.int .u32 zbaw, .int .u64 6] (by rfl) rfl rfl (by (try simp only [zban, zbao, zbap]); first | done | rfl) ?_
         with_reducible refine (stowageref03_turn.calls zbaw 6 t366 _ A53.out).mono ?_
         rintro e w' ⟨rfl, ⟨nd, rfl⟩⟩
         refine ⟨_, rfl, ?_⟩
         refine hK.out _ _ (hHeld) (fun hHeld => ?_)
         clear hK K
         refine nt 143 ?_
         refine one_ (i := 4) (N := some 145) zbsq112 rfl rfl (one_of HT_.out (by kernel_rfl)) (by decide) (fun K hK => ?_)
         refine goes_ Tryz.func97 (by kernel_rfl) rfl #[.int .u32 zbaw, .int .u64 11] (by rfl) rfl rfl (by (try simp only [zban, zbao, zbap]); first | done | rfl) ?_
         with_reducible refine (stowageref03_turn.calls zbaw 11 t367 _ A54.out).mono ?_
         rintro e w' ⟨rfl, ⟨nd, rfl⟩⟩
         refine ⟨_, rfl, ?_⟩
         refine hK.out _ _ (hHeld) (fun hHeld => ?_)
         clear hK K
         refine nt 145 ?_
         refine pt 5 146 HT_ ?_
         refine one_ (i := 7) (N := some 148) zbsq114 rfl rfl (one_of HT_.out (by kernel_rfl)) (by decide) (fun K hK => ?_)
         refine goes_ Tryz.func97 (by kernel_rfl) rfl #[.int .u32 zbaw, .int .u64 25] (by rfl) rfl rfl (by (try simp only [zban, zbao, zbap]); first | done | rfl) ?_
         with_reducible refine (stowageref03_turn.calls zbaw 25 t368 _ A55.out).mono ?_
         rintro e w' ⟨rfl, ⟨nd, rfl⟩⟩
         refine ⟨_, rfl, ?_⟩
         refine hK.out _ _ (hHeld) (fun hHeld => ?_)
         clear hK K
         refine nt 148 ?_
         refine pt 8 149 HT_ ?_
         refine pt 9 150 HT_ ?_
         refine pt 18 159 HT_ ?_
         refine one_ (i := 20) (N := some 161) zbsq118 rfl rfl (one_of HT_.out (by kernel_rfl)) (by decide) (fun K hK => ?_)
         refine goes_ Tryz.func98 (by kernel_rfl) rfl #[.int .i64 zbay] (by rfl) rfl rfl (by (try simp only [zban, zbao, zbap]); first | done | rfl) ?_
         with_reducible refine (stowageref03_number.calls zbay t369 _ A56.out).mono ?_
         rintro e w64 ⟨rfl, hb⟩
         have HS0_ := (hb.cell (zbad _ _ (hHeld))).trans (hHeld)
         refine ⟨_, rfl, ?_⟩
         have n0_ := zbaq (Kd.R_below (by (with_reducible repeat (first | apply Kd.R_alloc | apply Kd.R_drewN | apply Kd.R_drew)); exact HO_5.out) hb)
         have n1_ := zbaq (blk_below (g := zbax) (o := .cells #[.int .u32 a0_0, .int .u32 a0_1, .int .u32 a0_2, .int .u32 a0_3, .int .u32 a0_4, .int .u32 a0_5, .int .u32 a0_6, .int .u32 a0_7] 97 (0, 0)) (by (with_reducible repeat (first | refine zbae ?_ _ | refine zbag ?_ | refine zbaf ?_ _)); exact zbat.out) hb)
         have n2_ := zbaq (blk_below (g := zbba) (o := .cells #[.int .u32 0, .int .u32 0, .int .u32 0, .int .u32 0, .int .u32 0, .int .u32 0, .int .u32 0, .int .u32 0] 97 (0, 0)) (by (with_reducible repeat (first | refine zbae ?_ _ | refine zbag ?_ | refine zbaf ?_ _)); exact zbav.out) hb)
         have n3_ := zbaq (below_step (by repeat (first | (with_reducible first | exact HB.out | apply zbak | apply zbai | apply zbaj | refine zbah ?_ zbbh.out | refine zbah ?_ zbbi.out) | exact HB.out)) hb)
         clear HO_5
         clear zbat
         clear zbav
         clear HB
         have HO_5 := n0_
         have zbat := n1_
         have zbav := n2_
         have HB := n3_
         clear n0_ n1_ n2_ n3_
         (try clear hb)
         (try clear hb2)
         (try clear hk)
         (try clear hi)
         refine hK.out _ _ (HS0_) (fun hHeld => ?_)
         clear hK K
         refine nt 161 ?_
         refine pt 21 162 HT_ ?_
         refine pt 26 167 HT_ ?_
         refine pt 27 18 HT_ ?_
         refine done_ (done_of HT_.out (by kernel_rfl)) ?_
         try go_wp2_with (first | ((with_reducible refine gate_callee (f := 97) rfl ?_); refine goesL_ (some 169) rfl rfl Tryz.func97 (by kernel_rfl) rfl #[.int .u32 zbaz, .int .u64 2] rfl (by (try simp only [zban, zbao, zbap]); first | done | rfl) ?_; (with_reducible refine (stowageref03_turn.calls zbaz 2 t371 _ A59.out).mono ?_); rintro e w' ⟨rfl, ⟨nd, rfl⟩⟩; refine ⟨_, rfl, ?_⟩) | ((with_reducible refine gate_callee (f := 97) rfl ?_); refine goesL_ (some 171) rfl rfl Tryz.func97 (by kernel_rfl) rfl #[.int .u32 zbaz, .int .u64 13] rfl (by (try simp only [zban, zbao, zbap]); first | done | rfl) ?_; (with_reducible refine (stowageref03_turn.calls zbaz 13 t372 _ A60.out).mono ?_); rintro e w' ⟨rfl, ⟨nd, rfl⟩⟩; refine ⟨_, rfl, ?_⟩) | ((with_reducible refine gate_callee (f := 97) rfl ?_); refine goesL_ (some 174) rfl rfl Tryz.func97 (by kernel_rfl) rfl #[.int .u32 zbaz, .int .u64 22] rfl (by (try simp only [zban, zbao, zbap]); first | done | rfl) ?_; (with_reducible refine (stowageref03_turn.calls zbaz 22 t373 _ A61.out).mono ?_); rintro e w' ⟨rfl, ⟨nd, rfl⟩⟩; refine ⟨_, rfl, ?_⟩))
         go_roundg k2
         case measure => have := HK1.out; have := HK2.out; omega
         case rel => exact ⟨((((((((((zbbf + (Go.bits .xor .u32 (Go.bits .xor .u32 t366 t367) t368)) % 4294967296) + (Go.bits .xor .u32 (Go.bits .and .u32 zbaw zbbd) (Go.bits .and .u32 ((4294967295 - zbaw) % 4294967296) zbbe))) % 4294967296) + t369) % 4294967296) + (rd zbas zbay)) % 4294967296) + (((Go.bits .xor .u32 (Go.bits .xor .u32 t371 t372) t373) + (Go.bits .xor .u32 (Go.bits .xor .u32 (Go.bits .and .u32 zbaz zbbb) (Go.bits .and .u32 zbaz zbbc)) (Go.bits .and .u32 zbbb zbbc))) % 4294967296)) % 4294967296), (zbaz), (zbbb), (zbbc), ((zbbg + ((((((((zbbf + (Go.bits .xor .u32 (Go.bits .xor .u32 t366 t367) t368)) % 4294967296) + (Go.bits .xor .u32 (Go.bits .and .u32 zbaw zbbd) (Go.bits .and .u32 ((4294967295 - zbaw) % 4294967296) zbbe))) % 4294967296) + t369) % 4294967296) + (rd zbas zbay)) % 4294967296)) % 4294967296), (zbaw), (zbbd), (zbbe), (wrap64 (zbay + 1)), (by first | rfl | (simp; done) | (simp [*]; done)), (by first | rfl | (simp; done) | (simp [*]; done)), (by first | rfl | (simp; done) | (simp [*]; done)), (by first | rfl | (simp; done) | (simp [*]; done)), (by first | rfl | (simp; done) | (simp [*]; done)), (by first | rfl | (simp; done) | (simp [*]; done)), (by first | rfl | (simp; done) | (simp [*]; done)), (by first | rfl | (simp; done) | (simp [*]; done)), (by first | rfl | (simp; done) | (simp [*]; done)), H', ⟨by have := HK1.out; have := HK2.out; omega⟩, ⟨by (with_reducible repeat (first | apply Kd.R_alloc | apply Kd.R_drewN | apply Kd.R_drew)); exact HO_5.out⟩, ⟨by (with_reducible repeat (first | refine zbae ?_ _ | refine zbag ?_ | refine zbaf ?_ _)); exact zbat.out⟩, ⟨by (with_reducible repeat (first | refine zbae ?_ _ | refine zbag ?_ | refine zbaf ?_ _)); exact zbav.out⟩, ⟨by repeat (first | (with_reducible first | exact HB.out | apply zbak | apply zbai | apply zbaj | refine zbah ?_ zbbh.out | refine zbah ?_ zbbi.out) | exact HB.out)⟩⟩
        ·rw [if_neg c58] at H
         exact absurd H (by simp)
       ·rw [if_neg c57] at H
        exact absurd H (by simp)
      ·rw [if_neg c52] at H
       have c52b0 : decide (zbay < 64) = false := decide_eq_false c52
       clear c52
       simp only [Option.some.injEq, Prod.mk.injEq] at H
       obtain ⟨rfl, rfl, rfl, rfl, rfl, rfl, rfl, rfl⟩ := H
       have hnb65 := zbbr.out
       have hnc65 := zbbs.out
       have zbbv : wr.cell? ⟨zbax, 0, none⟩ = some (.int .u32 a0_0) := (zbal zbat.out 0).trans rfl
       have zbbw : wr.cell? ⟨zbax, 1, none⟩ = some (.int .u32 a0_1) := (zbal zbat.out 1).trans rfl
       have zbbx : wr.cell? ⟨zbax, 2, none⟩ = some (.int .u32 a0_2) := (zbal zbat.out 2).trans rfl
       have zbby : wr.cell? ⟨zbax, 3, none⟩ = some (.int .u32 a0_3) := (zbal zbat.out 3).trans rfl
       have zbbz : wr.cell? ⟨zbax, 4, none⟩ = some (.int .u32 a0_4) := (zbal zbat.out 4).trans rfl
       have zbca : wr.cell? ⟨zbax, 5, none⟩ = some (.int .u32 a0_5) := (zbal zbat.out 5).trans rfl
       have zbcb : wr.cell? ⟨zbax, 6, none⟩ = some (.int .u32 a0_6) := (zbal zbat.out 6).trans rfl
       have zbcc : wr.cell? ⟨zbax, 7, none⟩ = some (.int .u32 a0_7) := (zbal zbat.out 7).trans rfl
       have zbcd := zbam zbat.out 0
       have zbce := zbam zbat.out 1
       have zbcf := zbam zbat.out 2
       have zbcg := zbam zbat.out 3
       have zbch := zbam zbat.out 4
       have zbci := zbam zbat.out 5
       have zbcj := zbam zbat.out 6
       have zbck := zbam zbat.out 7
       have zbcl : wr.cell? ⟨zbba, 0, none⟩ = some (.int .u32 0) := (zbal zbav.out 0).trans rfl
       have zbcm : wr.cell? ⟨zbba, 1, none⟩ = some (.int .u32 0) := (zbal zbav.out 1).trans rfl
       have zbcn : wr.cell? ⟨zbba, 2, none⟩ = some (.int .u32 0) := (zbal zbav.out 2).trans rfl
       have zbco : wr.cell? ⟨zbba, 3, none⟩ = some (.int .u32 0) := (zbal zbav.out 3).trans rfl
       have zbcp : wr.cell? ⟨zbba, 4, none⟩ = some (.int .u32 0) := (zbal zbav.out 4).trans rfl
       have zbcq : wr.cell? ⟨zbba, 5, none⟩ = some (.int .u32 0) := (zbal zbav.out 5).trans rfl
       have zbcr : wr.cell? ⟨zbba, 6, none⟩ = some (.int .u32 0) := (zbal zbav.out 6).trans rfl
       have zbcs : wr.cell? ⟨zbba, 7, none⟩ = some (.int .u32 0) := (zbal zbav.out 7).trans rfl
       have zbct := zbam zbav.out 0
       have zbcu := zbam zbav.out 1
       have zbcv := zbam zbav.out 2
       have zbcw := zbam zbav.out 3
       have zbcx := zbam zbav.out 4
       have zbcy := zbam zbav.out 5
       have zbcz := zbam zbav.out 6
       have zbda := zbam zbav.out 7
       go_wp2
       refine bodyPost_ret (results_cell_row rfl _ _ zbba 97 #[.int .u32 ((a0_0 + zbaz) % 4294967296), .int .u32 ((a0_1 + zbbb) % 4294967296), .int .u32 ((a0_2 + zbbc) % 4294967296), .int .u32 ((a0_3 + zbbg) % 4294967296), .int .u32 ((a0_4 + zbaw) % 4294967296), .int .u32 ((a0_5 + zbbd) % 4294967296), .int .u32 ((a0_6 + zbbe) % 4294967296), .int .u32 ((a0_7 + zbbf) % 4294967296)] (0, 0) _ rfl (by (with_reducible repeat (first | refine zbae ?_ _ | refine zbag ?_ | refine zbaf ?_ _)); refine blk_put (cs := #[.int .u32 ((a0_0 + zbaz) % 4294967296), .int .u32 ((a0_1 + zbbb) % 4294967296), .int .u32 ((a0_2 + zbbc) % 4294967296), .int .u32 ((a0_3 + zbbg) % 4294967296), .int .u32 ((a0_4 + zbaw) % 4294967296), .int .u32 ((a0_5 + zbbd) % 4294967296), .int .u32 ((a0_6 + zbbe) % 4294967296), .int .u32 0]) ?_ 7 _ rfl; (with_reducible repeat (first | refine zbae ?_ _ | refine zbag ?_ | refine zbaf ?_ _)); refine blk_put (cs := #[.int .u32 ((a0_0 + zbaz) % 4294967296), .int .u32 ((a0_1 + zbbb) % 4294967296), .int .u32 ((a0_2 + zbbc) % 4294967296), .int .u32 ((a0_3 + zbbg) % 4294967296), .int .u32 ((a0_4 + zbaw) % 4294967296), .int .u32 ((a0_5 + zbbd) % 4294967296), .int .u32 0, .int .u32 0]) ?_ 6 _ rfl; (with_reducible repeat (first | refine zbae ?_ _ | refine zbag ?_ | refine zbaf ?_ _)); refine blk_put (cs := #[.int .u32 ((a0_0 + zbaz) % 4294967296), .int .u32 ((a0_1 + zbbb) % 4294967296), .int .u32 ((a0_2 + zbbc) % 4294967296), .int .u32 ((a0_3 + zbbg) % 4294967296), .int .u32 ((a0_4 + zbaw) % 4294967296), .int .u32 0, .int .u32 0, .int .u32 0]) ?_ 5 _ rfl; (with_reducible repeat (first | refine zbae ?_ _ | refine zbag ?_ | refine zbaf ?_ _)); refine blk_put (cs := #[.int .u32 ((a0_0 + zbaz) % 4294967296), .int .u32 ((a0_1 + zbbb) % 4294967296), .int .u32 ((a0_2 + zbbc) % 4294967296), .int .u32 ((a0_3 + zbbg) % 4294967296), .int .u32 0, .int .u32 0, .int .u32 0, .int .u32 0]) ?_ 4 _ rfl; (with_reducible repeat (first | refine zbae ?_ _ | refine zbag ?_ | refine zbaf ?_ _)); refine blk_put (cs := #[.int .u32 ((a0_0 + zbaz) % 4294967296), .int .u32 ((a0_1 + zbbb) % 4294967296), .int .u32 ((a0_2 + zbbc) % 4294967296), .int .u32 0, .int .u32 0, .int .u32 0, .int .u32 0, .int .u32 0]) ?_ 3 _ rfl; (with_reducible repeat (first | refine zbae ?_ _ | refine zbag ?_ | refine zbaf ?_ _)); refine blk_put (cs := #[.int .u32 ((a0_0 + zbaz) % 4294967296), .int .u32 ((a0_1 + zbbb) % 4294967296), .int .u32 0, .int .u32 0, .int .u32 0, .int .u32 0, .int .u32 0, .int .u32 0]) ?_ 2 _ rfl; (with_reducible repeat (first | refine zbae ?_ _ | refine zbag ?_ | refine zbaf ?_ _)); refine blk_put (cs := #[.int .u32 ((a0_0 + zbaz) % 4294967296), .int .u32 0, .int .u32 0, .int .u32 0, .int .u32 0, .int .u32 0, .int .u32 0, .int .u32 0]) ?_ 1 _ rfl; (with_reducible repeat (first | refine zbae ?_ _ | refine zbag ?_ | refine zbaf ?_ _)); refine blk_put (cs := #[.int .u32 0, .int .u32 0, .int .u32 0, .int .u32 0, .int .u32 0, .int .u32 0, .int .u32 0, .int .u32 0]) ?_ 0 _ rfl; (with_reducible repeat (first | refine zbae ?_ _ | refine zbag ?_ | refine zbaf ?_ _)); exact zbav.out) Tryz.underlying97 rfl (by kernel_rfl)) rfl ?_
       exact ⟨by first | rfl | (simp [errW_none, errW_some] <;> rfl) | (simp [*, errW_none, errW_some] <;> rfl), by repeat (first | (with_reducible first | exact HB.out | apply zbak | apply zbai | apply zbaj | refine zbah ?_ zbbh.out | refine zbah ?_ zbbi.out) | exact HB.out)⟩
end Go.Proofs.YtpgbkeaaklglkaaGreatDoor.Q